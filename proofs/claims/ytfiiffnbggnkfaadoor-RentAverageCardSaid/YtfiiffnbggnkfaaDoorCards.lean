/-
  DERIVED. GIVEN WITH THE SEED: THE CARDS: each row of YtfiiffnbggnkfaaDoorRows.lean that lists a variable, with what it lists TIED to the program's text (the seventh form; the later family's looks); each row that meets fmt, with fmt's text TOLD by the authors' own Lean function (tested against real Go, not proved from fmt's source: count such statements apart). THE CARD IS WHAT COUNTS. Prove the row's statement (the work); the ties are given (YtfiiffnbggnkfaaDoorTie.lean); close each card by the builder's one call (the guide's Derived/Test/ToyasCard.lean, 'card_holds'). Laid BY PROGRAM, IN A SANDBOX (cutbox-door.mjs). By AI agents, Wed Nov 11 2026. No macro, syntax, notation, axiom, sorry.
-/
import Derived.Test.YtfiiffnbggnkfaaDoorRows
import GoSem.ClaimSeven
namespace Go.Proofs.YtfiiffnbggnkfaaDoor
namespace Rows

/-- THE TIED CARD OF 'baudotlaw09.RentAverage'. -/
def rentAverageCard : Claim7 := { stood := { row := rentAverageRow, standIns := [], harness := (true, "39fca605f8b5e64e51cc107972c444f013a12860d81a6e3171e28784fb75b73b"), looks := false }, kinds := [], alts := [], goes := true, laidByText := true, laidKinds := [.funcs, .funcs, .funcs], laidTests := true, laidLooks := .later }
def RentAverageCardSaid : Prop := Claim7.holds Tryd.pinned (.plain (OpenSpec.ofChange rentAverageSpec)) rentAverageCard

/-- THE SECOND FORM's CARD OF 'baudotlaw09.RentAverage'. -/
def rentAverageUptoCard : Claim7 := { stood := { row := rentAverageUptoRow, standIns := [], harness := (true, "39fca605f8b5e64e51cc107972c444f013a12860d81a6e3171e28784fb75b73b"), looks := false }, kinds := [], alts := [], goes := true, laidByText := true, laidKinds := [.funcs, .funcs, .funcs], laidTests := true, laidLooks := .later }
def RentAverageUptoCardSaid : Prop := Claim7.holds Tryd.pinned (.plain (OpenSpec.upto rentAverageSpec)) rentAverageUptoCard
end Rows
end Go.Proofs.YtfiiffnbggnkfaaDoor
