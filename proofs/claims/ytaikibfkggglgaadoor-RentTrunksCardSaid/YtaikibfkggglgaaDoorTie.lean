/-
  DERIVED. GIVEN WITH THE SEED: THE PROGRAM's TIES (one call each: nine closed facts by the kernel) AND EACH ROW's TIE, after the 31st guide's Derived/Test/Toyas{Tie, Card}.lean. No idea stands in it: it is a product of the set-up. Laid BY PROGRAM, IN A SANDBOX (cutbox-door.mjs). By AI agents, Wed Nov 11 2026. No macro, syntax, notation, axiom, sorry.
-/
import Derived.Test.YtaikibfkggglgaaDoorRows
import Derived.LaidByTextLater
import Derived.SevenTiedAt
import Derived.LaidSub
import Derived.LaidOnce
namespace Go.Proofs.YtaikibfkggglgaaDoor
open Go
set_option maxRecDepth 100000
theorem seatTie1 : Tryd.prog.laidByTextLater [("baudot/rent.checks", Rows.laid_baudot_rent_checks), ("baudot/rent.fewest", Rows.laid_baudot_rent_fewest), ("baudot/rent.most", Rows.laid_baudot_rent_most)] [.funcs, .funcs, .funcs] true :=
  Program.laidByTextLater_by_one 24 8 2 (by kernel_rfl) (by kernel_rfl) (by kernel_rfl) (by kernel_rfl) (by kernel_rfl) (by kernel_rfl) (fun _ _ => by kernel_rfl)
theorem noOwnUnsafe : Tryd.pinned.checked.prog.headLifts.contains "ownunsafe" = false := by kernel_rfl
theorem tie : Tryd.prog.laidByTextLater [("baudot/rent.checks", Rows.laid_baudot_rent_checks), ("baudot/rent.fewest", Rows.laid_baudot_rent_fewest), ("baudot/rent.most", Rows.laid_baudot_rent_most)] [.funcs, .funcs, .funcs] true :=
  Program.laidByTextLater.sub seatTie1 ["baudot/rent.checks", "baudot/rent.fewest", "baudot/rent.most"] (by kernel_rfl) (by kernel_rfl)
theorem rentTrunks_row_tie : Rows.rentTrunksRow.laidByTextAt .later Tryd.pinned [.funcs, .funcs, .funcs] true :=
  OpenClaim.laidByTextAt_later rfl rfl tie noOwnUnsafe
theorem rentReal_row_tie : Rows.rentRealRow.laidByTextAt .later Tryd.pinned [.funcs, .funcs, .funcs] true :=
  OpenClaim.laidByTextAt_later rfl rfl tie noOwnUnsafe
theorem rentLacks_row_tie : Rows.rentLacksRow.laidByTextAt .later Tryd.pinned [.funcs, .funcs, .funcs] true :=
  OpenClaim.laidByTextAt_later rfl rfl tie noOwnUnsafe
theorem rentSpare_row_tie : Rows.rentSpareRow.laidByTextAt .later Tryd.pinned [.funcs, .funcs, .funcs] true :=
  OpenClaim.laidByTextAt_later rfl rfl tie noOwnUnsafe
theorem rentCheapest_row_tie : Rows.rentCheapestRow.laidByTextAt .later Tryd.pinned [.funcs, .funcs, .funcs] true :=
  OpenClaim.laidByTextAt_later rfl rfl tie noOwnUnsafe
theorem rentMoreTrunks_row_tie : Rows.rentMoreTrunksRow.laidByTextAt .later Tryd.pinned [.funcs, .funcs, .funcs] true :=
  OpenClaim.laidByTextAt_later rfl rfl tie noOwnUnsafe
theorem rentMoreCalls_row_tie : Rows.rentMoreCallsRow.laidByTextAt .later Tryd.pinned [.funcs, .funcs, .funcs] true :=
  OpenClaim.laidByTextAt_later rfl rfl tie noOwnUnsafe
theorem rentYear_row_tie : Rows.rentYearRow.laidByTextAt .later Tryd.pinned [.funcs, .funcs, .funcs] true :=
  OpenClaim.laidByTextAt_later rfl rfl tie noOwnUnsafe
theorem rentAnyOrder_row_tie : Rows.rentAnyOrderRow.laidByTextAt .later Tryd.pinned [.funcs, .funcs, .funcs] true :=
  OpenClaim.laidByTextAt_later rfl rfl tie noOwnUnsafe
theorem rentDirect_row_tie : Rows.rentDirectRow.laidByTextAt .later Tryd.pinned [.funcs, .funcs, .funcs] true :=
  OpenClaim.laidByTextAt_later rfl rfl tie noOwnUnsafe
theorem rentNews_row_tie : Rows.rentNewsRow.laidByTextAt .later Tryd.pinned [.funcs, .funcs, .funcs] true :=
  OpenClaim.laidByTextAt_later rfl rfl tie noOwnUnsafe
theorem rentTrunksUpto_row_tie : Rows.rentTrunksUptoRow.laidByTextAt .later Tryd.pinned [.funcs, .funcs, .funcs] true :=
  OpenClaim.laidByTextAt_later rfl rfl tie noOwnUnsafe
theorem rentRealUpto_row_tie : Rows.rentRealUptoRow.laidByTextAt .later Tryd.pinned [.funcs, .funcs, .funcs] true :=
  OpenClaim.laidByTextAt_later rfl rfl tie noOwnUnsafe
theorem rentLacksUpto_row_tie : Rows.rentLacksUptoRow.laidByTextAt .later Tryd.pinned [.funcs, .funcs, .funcs] true :=
  OpenClaim.laidByTextAt_later rfl rfl tie noOwnUnsafe
theorem rentSpareUpto_row_tie : Rows.rentSpareUptoRow.laidByTextAt .later Tryd.pinned [.funcs, .funcs, .funcs] true :=
  OpenClaim.laidByTextAt_later rfl rfl tie noOwnUnsafe
theorem rentCheapestUpto_row_tie : Rows.rentCheapestUptoRow.laidByTextAt .later Tryd.pinned [.funcs, .funcs, .funcs] true :=
  OpenClaim.laidByTextAt_later rfl rfl tie noOwnUnsafe
theorem rentMoreTrunksUpto_row_tie : Rows.rentMoreTrunksUptoRow.laidByTextAt .later Tryd.pinned [.funcs, .funcs, .funcs] true :=
  OpenClaim.laidByTextAt_later rfl rfl tie noOwnUnsafe
theorem rentMoreCallsUpto_row_tie : Rows.rentMoreCallsUptoRow.laidByTextAt .later Tryd.pinned [.funcs, .funcs, .funcs] true :=
  OpenClaim.laidByTextAt_later rfl rfl tie noOwnUnsafe
theorem rentYearUpto_row_tie : Rows.rentYearUptoRow.laidByTextAt .later Tryd.pinned [.funcs, .funcs, .funcs] true :=
  OpenClaim.laidByTextAt_later rfl rfl tie noOwnUnsafe
theorem rentAnyOrderUpto_row_tie : Rows.rentAnyOrderUptoRow.laidByTextAt .later Tryd.pinned [.funcs, .funcs, .funcs] true :=
  OpenClaim.laidByTextAt_later rfl rfl tie noOwnUnsafe
theorem rentDirectUpto_row_tie : Rows.rentDirectUptoRow.laidByTextAt .later Tryd.pinned [.funcs, .funcs, .funcs] true :=
  OpenClaim.laidByTextAt_later rfl rfl tie noOwnUnsafe
theorem rentNewsUpto_row_tie : Rows.rentNewsUptoRow.laidByTextAt .later Tryd.pinned [.funcs, .funcs, .funcs] true :=
  OpenClaim.laidByTextAt_later rfl rfl tie noOwnUnsafe
end Go.Proofs.YtaikibfkggglgaaDoor
