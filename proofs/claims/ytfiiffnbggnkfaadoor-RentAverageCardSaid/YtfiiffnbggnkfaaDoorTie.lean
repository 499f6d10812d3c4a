/-
  DERIVED. GIVEN WITH THE SEED: THE PROGRAM's TIES (one call each: nine closed facts by the kernel) AND EACH ROW's TIE, after the 31st guide's Derived/Test/Toyas{Tie, Card}.lean. No idea stands in it: it is a product of the set-up. Laid BY PROGRAM, IN A SANDBOX (cutbox-door.mjs). By AI agents, Wed Nov 11 2026. No macro, syntax, notation, axiom, sorry.
-/
import Derived.Test.YtfiiffnbggnkfaaDoorRows
import Derived.LaidByTextLater
import Derived.SevenTiedAt
import Derived.LaidSub
import Derived.LaidOnce
namespace Go.Proofs.YtfiiffnbggnkfaaDoor
open Go
set_option maxRecDepth 100000
theorem seatTie1 : Tryd.prog.laidByTextLater [("baudot/rent.checks", Rows.laid_baudot_rent_checks), ("baudot/rent.fewest", Rows.laid_baudot_rent_fewest), ("baudot/rent.most", Rows.laid_baudot_rent_most)] [.funcs, .funcs, .funcs] true :=
  Program.laidByTextLater_by_one 24 8 2 (by kernel_rfl) (by kernel_rfl) (by kernel_rfl) (by kernel_rfl) (by kernel_rfl) (by kernel_rfl) (fun _ _ => by kernel_rfl)
theorem noOwnUnsafe : Tryd.pinned.checked.prog.headLifts.contains "ownunsafe" = false := by kernel_rfl
theorem tie : Tryd.prog.laidByTextLater [("baudot/rent.checks", Rows.laid_baudot_rent_checks), ("baudot/rent.fewest", Rows.laid_baudot_rent_fewest), ("baudot/rent.most", Rows.laid_baudot_rent_most)] [.funcs, .funcs, .funcs] true :=
  Program.laidByTextLater.sub seatTie1 ["baudot/rent.checks", "baudot/rent.fewest", "baudot/rent.most"] (by kernel_rfl) (by kernel_rfl)
theorem rentAverage_row_tie : Rows.rentAverageRow.laidByTextAt .later Tryd.pinned [.funcs, .funcs, .funcs] true :=
  OpenClaim.laidByTextAt_later rfl rfl tie noOwnUnsafe
theorem rentAverageUpto_row_tie : Rows.rentAverageUptoRow.laidByTextAt .later Tryd.pinned [.funcs, .funcs, .funcs] true :=
  OpenClaim.laidByTextAt_later rfl rfl tie noOwnUnsafe
end Go.Proofs.YtfiiffnbggnkfaaDoor
