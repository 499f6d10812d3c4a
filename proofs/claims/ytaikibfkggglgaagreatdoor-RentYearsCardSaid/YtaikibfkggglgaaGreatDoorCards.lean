/-
  DERIVED. GIVEN WITH THE SEED: THE CARDS: each row of YtaikibfkggglgaaGreatDoorRows.lean that lists a variable, with what it lists TIED to the program's text (the seventh form; the later family's looks); each row that meets fmt, with fmt's text TOLD by the authors' own Lean function (tested against real Go, not proved from fmt's source: count such statements apart). THE CARD IS WHAT COUNTS. Prove the row's statement (the work); the ties are given (YtaikibfkggglgaaGreatDoorTie.lean); close each card by the builder's one call (the guide's Derived/Test/ToyasCard.lean, 'card_holds'). Laid BY PROGRAM, IN A SANDBOX (cutbox-door.mjs). By AI agents, Wed Nov 11 2026. No macro, syntax, notation, axiom, sorry.
-/
import Derived.Test.YtaikibfkggglgaaGreatDoorRows
import GoSem.ClaimSeven
namespace Go.Proofs.YtaikibfkggglgaaGreatDoor
namespace Rows

/-- THE TIED CARD OF 'baudotlaw09.RentMore'. -/
def rentMoreCard : Claim7 := { stood := { row := rentMoreRow, standIns := [], harness := (true, "2e4540737134248b0b79dc1793b5c5e3f28f9ac160a5c57c6ca780538b214062"), looks := false }, kinds := [], alts := [], goes := true, laidByText := true, laidKinds := [.funcs, .funcs, .funcs], laidTests := true, laidLooks := .later }
def RentMoreCardSaid : Prop := Claim7.holds Tryz.pinned (.plain (OpenSpec.ofChange rentMoreSpec)) rentMoreCard

/-- THE TIED CARD OF 'baudotlaw09.RentCosts'. -/
def rentCostsCard : Claim7 := { stood := { row := rentCostsRow, standIns := [], harness := (true, "2e4540737134248b0b79dc1793b5c5e3f28f9ac160a5c57c6ca780538b214062"), looks := false }, kinds := [], alts := [], goes := true, laidByText := true, laidKinds := [.funcs, .funcs, .funcs], laidTests := true, laidLooks := .later }
def RentCostsCardSaid : Prop := Claim7.holds Tryz.pinned (.plain (OpenSpec.ofChange rentCostsSpec)) rentCostsCard

/-- THE TIED CARD OF 'baudotlaw09.RentYears'. -/
def rentYearsCard : Claim7 := { stood := { row := rentYearsRow, standIns := [], harness := (true, "2e4540737134248b0b79dc1793b5c5e3f28f9ac160a5c57c6ca780538b214062"), looks := false }, kinds := [], alts := [], goes := true, laidByText := true, laidKinds := [.funcs, .funcs, .funcs], laidTests := true, laidLooks := .later }
def RentYearsCardSaid : Prop := Claim7.holds Tryz.pinned (.plain (OpenSpec.ofChange rentYearsSpec)) rentYearsCard

/-- THE SECOND FORM's CARD OF 'baudotlaw09.RentMore'. -/
def rentMoreUptoCard : Claim7 := { stood := { row := rentMoreUptoRow, standIns := [], harness := (true, "2e4540737134248b0b79dc1793b5c5e3f28f9ac160a5c57c6ca780538b214062"), looks := false }, kinds := [], alts := [], goes := true, laidByText := true, laidKinds := [.funcs, .funcs, .funcs], laidTests := true, laidLooks := .later }
def RentMoreUptoCardSaid : Prop := Claim7.holds Tryz.pinned (.plain (OpenSpec.upto rentMoreSpec)) rentMoreUptoCard

/-- THE SECOND FORM's CARD OF 'baudotlaw09.RentCosts'. -/
def rentCostsUptoCard : Claim7 := { stood := { row := rentCostsUptoRow, standIns := [], harness := (true, "2e4540737134248b0b79dc1793b5c5e3f28f9ac160a5c57c6ca780538b214062"), looks := false }, kinds := [], alts := [], goes := true, laidByText := true, laidKinds := [.funcs, .funcs, .funcs], laidTests := true, laidLooks := .later }
def RentCostsUptoCardSaid : Prop := Claim7.holds Tryz.pinned (.plain (OpenSpec.upto rentCostsSpec)) rentCostsUptoCard

/-- THE SECOND FORM's CARD OF 'baudotlaw09.RentYears'. -/
def rentYearsUptoCard : Claim7 := { stood := { row := rentYearsUptoRow, standIns := [], harness := (true, "2e4540737134248b0b79dc1793b5c5e3f28f9ac160a5c57c6ca780538b214062"), looks := false }, kinds := [], alts := [], goes := true, laidByText := true, laidKinds := [.funcs, .funcs, .funcs], laidTests := true, laidLooks := .later }
def RentYearsUptoCardSaid : Prop := Claim7.holds Tryz.pinned (.plain (OpenSpec.upto rentYearsSpec)) rentYearsUptoCard
end Rows
end Go.Proofs.YtaikibfkggglgaaGreatDoor
