/-
  DERIVED. GIVEN WITH THE SEED: THE CARDS: each row of YtaikibfkggglgaaDoorRows.lean that lists a variable, with what it lists TIED to the program's text (the seventh form; the later family's looks); each row that meets fmt, with fmt's text TOLD by the authors' own Lean function (tested against real Go, not proved from fmt's source: count such statements apart). THE CARD IS WHAT COUNTS. Prove the row's statement (the work); the ties are given (YtaikibfkggglgaaDoorTie.lean); close each card by the builder's one call (the guide's Derived/Test/ToyasCard.lean, 'card_holds'). Laid BY PROGRAM, IN A SANDBOX (cutbox-door.mjs). By AI agents, Wed Nov 11 2026. No macro, syntax, notation, axiom, sorry.
-/
import Derived.Test.YtaikibfkggglgaaDoorRows
import GoSem.ClaimSeven
namespace Go.Proofs.YtaikibfkggglgaaDoor
namespace Rows

/-- THE TIED CARD OF 'baudotlaw09.RentTrunks'. -/
def rentTrunksCard : Claim7 := { stood := { row := rentTrunksRow, standIns := [], harness := (true, "72ef7cba7f7fd8f165ce5e08d99ae6adf001f8a416de6ee8962cf05e685c9f16"), looks := false }, kinds := [], alts := [], goes := true, laidByText := true, laidKinds := [.funcs, .funcs, .funcs], laidTests := true, laidLooks := .later }
def RentTrunksCardSaid : Prop := Claim7.holds Tryd.pinned (.plain (OpenSpec.ofChange rentTrunksSpec)) rentTrunksCard

/-- THE TIED CARD OF 'baudotlaw09.RentReal'. -/
def rentRealCard : Claim7 := { stood := { row := rentRealRow, standIns := [], harness := (true, "72ef7cba7f7fd8f165ce5e08d99ae6adf001f8a416de6ee8962cf05e685c9f16"), looks := false }, kinds := [], alts := [], goes := true, laidByText := true, laidKinds := [.funcs, .funcs, .funcs], laidTests := true, laidLooks := .later }
def RentRealCardSaid : Prop := Claim7.holds Tryd.pinned (.plain (OpenSpec.ofChange rentRealSpec)) rentRealCard

/-- THE TIED CARD OF 'baudotlaw09.RentLacks'. -/
def rentLacksCard : Claim7 := { stood := { row := rentLacksRow, standIns := [], harness := (true, "72ef7cba7f7fd8f165ce5e08d99ae6adf001f8a416de6ee8962cf05e685c9f16"), looks := false }, kinds := [], alts := [], goes := true, laidByText := true, laidKinds := [.funcs, .funcs, .funcs], laidTests := true, laidLooks := .later }
def RentLacksCardSaid : Prop := Claim7.holds Tryd.pinned (.plain (OpenSpec.ofChange rentLacksSpec)) rentLacksCard

/-- THE TIED CARD OF 'baudotlaw09.RentSpare'. -/
def rentSpareCard : Claim7 := { stood := { row := rentSpareRow, standIns := [], harness := (true, "72ef7cba7f7fd8f165ce5e08d99ae6adf001f8a416de6ee8962cf05e685c9f16"), looks := false }, kinds := [], alts := [], goes := true, laidByText := true, laidKinds := [.funcs, .funcs, .funcs], laidTests := true, laidLooks := .later }
def RentSpareCardSaid : Prop := Claim7.holds Tryd.pinned (.plain (OpenSpec.ofChange rentSpareSpec)) rentSpareCard

/-- THE TIED CARD OF 'baudotlaw09.RentCheapest'. -/
def rentCheapestCard : Claim7 := { stood := { row := rentCheapestRow, standIns := [], harness := (true, "72ef7cba7f7fd8f165ce5e08d99ae6adf001f8a416de6ee8962cf05e685c9f16"), looks := false }, kinds := [], alts := [], goes := true, laidByText := true, laidKinds := [.funcs, .funcs, .funcs], laidTests := true, laidLooks := .later }
def RentCheapestCardSaid : Prop := Claim7.holds Tryd.pinned (.plain (OpenSpec.ofChange rentCheapestSpec)) rentCheapestCard

/-- THE TIED CARD OF 'baudotlaw09.RentMoreTrunks'. -/
def rentMoreTrunksCard : Claim7 := { stood := { row := rentMoreTrunksRow, standIns := [], harness := (true, "72ef7cba7f7fd8f165ce5e08d99ae6adf001f8a416de6ee8962cf05e685c9f16"), looks := false }, kinds := [], alts := [], goes := true, laidByText := true, laidKinds := [.funcs, .funcs, .funcs], laidTests := true, laidLooks := .later }
def RentMoreTrunksCardSaid : Prop := Claim7.holds Tryd.pinned (.plain (OpenSpec.ofChange rentMoreTrunksSpec)) rentMoreTrunksCard

/-- THE TIED CARD OF 'baudotlaw09.RentMoreCalls'. -/
def rentMoreCallsCard : Claim7 := { stood := { row := rentMoreCallsRow, standIns := [], harness := (true, "72ef7cba7f7fd8f165ce5e08d99ae6adf001f8a416de6ee8962cf05e685c9f16"), looks := false }, kinds := [], alts := [], goes := true, laidByText := true, laidKinds := [.funcs, .funcs, .funcs], laidTests := true, laidLooks := .later }
def RentMoreCallsCardSaid : Prop := Claim7.holds Tryd.pinned (.plain (OpenSpec.ofChange rentMoreCallsSpec)) rentMoreCallsCard

/-- THE TIED CARD OF 'baudotlaw09.RentYear'. -/
def rentYearCard : Claim7 := { stood := { row := rentYearRow, standIns := [], harness := (true, "72ef7cba7f7fd8f165ce5e08d99ae6adf001f8a416de6ee8962cf05e685c9f16"), looks := false }, kinds := [], alts := [], goes := true, laidByText := true, laidKinds := [.funcs, .funcs, .funcs], laidTests := true, laidLooks := .later }
def RentYearCardSaid : Prop := Claim7.holds Tryd.pinned (.plain (OpenSpec.ofChange rentYearSpec)) rentYearCard

/-- THE TIED CARD OF 'baudotlaw09.RentAnyOrder'. -/
def rentAnyOrderCard : Claim7 := { stood := { row := rentAnyOrderRow, standIns := [], harness := (true, "72ef7cba7f7fd8f165ce5e08d99ae6adf001f8a416de6ee8962cf05e685c9f16"), looks := false }, kinds := [], alts := [], goes := true, laidByText := true, laidKinds := [.funcs, .funcs, .funcs], laidTests := true, laidLooks := .later }
def RentAnyOrderCardSaid : Prop := Claim7.holds Tryd.pinned (.plain (OpenSpec.ofChange rentAnyOrderSpec)) rentAnyOrderCard

/-- THE TIED CARD OF 'baudotlaw09.RentDirect'. -/
def rentDirectCard : Claim7 := { stood := { row := rentDirectRow, standIns := [], harness := (true, "72ef7cba7f7fd8f165ce5e08d99ae6adf001f8a416de6ee8962cf05e685c9f16"), looks := false }, kinds := [], alts := [], goes := true, laidByText := true, laidKinds := [.funcs, .funcs, .funcs], laidTests := true, laidLooks := .later }
def RentDirectCardSaid : Prop := Claim7.holds Tryd.pinned (.plain (OpenSpec.ofChange rentDirectSpec)) rentDirectCard

/-- THE TIED CARD OF 'baudotlaw09.RentNews'. -/
def rentNewsCard : Claim7 := { stood := { row := rentNewsRow, standIns := [], harness := (true, "72ef7cba7f7fd8f165ce5e08d99ae6adf001f8a416de6ee8962cf05e685c9f16"), looks := false }, kinds := [], alts := [], goes := true, laidByText := true, laidKinds := [.funcs, .funcs, .funcs], laidTests := true, laidLooks := .later }
def RentNewsCardSaid : Prop := Claim7.holds Tryd.pinned (.plain (OpenSpec.ofChange rentNewsSpec)) rentNewsCard

/-- THE SECOND FORM's CARD OF 'baudotlaw09.RentTrunks'. -/
def rentTrunksUptoCard : Claim7 := { stood := { row := rentTrunksUptoRow, standIns := [], harness := (true, "72ef7cba7f7fd8f165ce5e08d99ae6adf001f8a416de6ee8962cf05e685c9f16"), looks := false }, kinds := [], alts := [], goes := true, laidByText := true, laidKinds := [.funcs, .funcs, .funcs], laidTests := true, laidLooks := .later }
def RentTrunksUptoCardSaid : Prop := Claim7.holds Tryd.pinned (.plain (OpenSpec.upto rentTrunksSpec)) rentTrunksUptoCard

/-- THE SECOND FORM's CARD OF 'baudotlaw09.RentReal'. -/
def rentRealUptoCard : Claim7 := { stood := { row := rentRealUptoRow, standIns := [], harness := (true, "72ef7cba7f7fd8f165ce5e08d99ae6adf001f8a416de6ee8962cf05e685c9f16"), looks := false }, kinds := [], alts := [], goes := true, laidByText := true, laidKinds := [.funcs, .funcs, .funcs], laidTests := true, laidLooks := .later }
def RentRealUptoCardSaid : Prop := Claim7.holds Tryd.pinned (.plain (OpenSpec.upto rentRealSpec)) rentRealUptoCard

/-- THE SECOND FORM's CARD OF 'baudotlaw09.RentLacks'. -/
def rentLacksUptoCard : Claim7 := { stood := { row := rentLacksUptoRow, standIns := [], harness := (true, "72ef7cba7f7fd8f165ce5e08d99ae6adf001f8a416de6ee8962cf05e685c9f16"), looks := false }, kinds := [], alts := [], goes := true, laidByText := true, laidKinds := [.funcs, .funcs, .funcs], laidTests := true, laidLooks := .later }
def RentLacksUptoCardSaid : Prop := Claim7.holds Tryd.pinned (.plain (OpenSpec.upto rentLacksSpec)) rentLacksUptoCard

/-- THE SECOND FORM's CARD OF 'baudotlaw09.RentSpare'. -/
def rentSpareUptoCard : Claim7 := { stood := { row := rentSpareUptoRow, standIns := [], harness := (true, "72ef7cba7f7fd8f165ce5e08d99ae6adf001f8a416de6ee8962cf05e685c9f16"), looks := false }, kinds := [], alts := [], goes := true, laidByText := true, laidKinds := [.funcs, .funcs, .funcs], laidTests := true, laidLooks := .later }
def RentSpareUptoCardSaid : Prop := Claim7.holds Tryd.pinned (.plain (OpenSpec.upto rentSpareSpec)) rentSpareUptoCard

/-- THE SECOND FORM's CARD OF 'baudotlaw09.RentCheapest'. -/
def rentCheapestUptoCard : Claim7 := { stood := { row := rentCheapestUptoRow, standIns := [], harness := (true, "72ef7cba7f7fd8f165ce5e08d99ae6adf001f8a416de6ee8962cf05e685c9f16"), looks := false }, kinds := [], alts := [], goes := true, laidByText := true, laidKinds := [.funcs, .funcs, .funcs], laidTests := true, laidLooks := .later }
def RentCheapestUptoCardSaid : Prop := Claim7.holds Tryd.pinned (.plain (OpenSpec.upto rentCheapestSpec)) rentCheapestUptoCard

/-- THE SECOND FORM's CARD OF 'baudotlaw09.RentMoreTrunks'. -/
def rentMoreTrunksUptoCard : Claim7 := { stood := { row := rentMoreTrunksUptoRow, standIns := [], harness := (true, "72ef7cba7f7fd8f165ce5e08d99ae6adf001f8a416de6ee8962cf05e685c9f16"), looks := false }, kinds := [], alts := [], goes := true, laidByText := true, laidKinds := [.funcs, .funcs, .funcs], laidTests := true, laidLooks := .later }
def RentMoreTrunksUptoCardSaid : Prop := Claim7.holds Tryd.pinned (.plain (OpenSpec.upto rentMoreTrunksSpec)) rentMoreTrunksUptoCard

/-- THE SECOND FORM's CARD OF 'baudotlaw09.RentMoreCalls'. -/
def rentMoreCallsUptoCard : Claim7 := { stood := { row := rentMoreCallsUptoRow, standIns := [], harness := (true, "72ef7cba7f7fd8f165ce5e08d99ae6adf001f8a416de6ee8962cf05e685c9f16"), looks := false }, kinds := [], alts := [], goes := true, laidByText := true, laidKinds := [.funcs, .funcs, .funcs], laidTests := true, laidLooks := .later }
def RentMoreCallsUptoCardSaid : Prop := Claim7.holds Tryd.pinned (.plain (OpenSpec.upto rentMoreCallsSpec)) rentMoreCallsUptoCard

/-- THE SECOND FORM's CARD OF 'baudotlaw09.RentYear'. -/
def rentYearUptoCard : Claim7 := { stood := { row := rentYearUptoRow, standIns := [], harness := (true, "72ef7cba7f7fd8f165ce5e08d99ae6adf001f8a416de6ee8962cf05e685c9f16"), looks := false }, kinds := [], alts := [], goes := true, laidByText := true, laidKinds := [.funcs, .funcs, .funcs], laidTests := true, laidLooks := .later }
def RentYearUptoCardSaid : Prop := Claim7.holds Tryd.pinned (.plain (OpenSpec.upto rentYearSpec)) rentYearUptoCard

/-- THE SECOND FORM's CARD OF 'baudotlaw09.RentAnyOrder'. -/
def rentAnyOrderUptoCard : Claim7 := { stood := { row := rentAnyOrderUptoRow, standIns := [], harness := (true, "72ef7cba7f7fd8f165ce5e08d99ae6adf001f8a416de6ee8962cf05e685c9f16"), looks := false }, kinds := [], alts := [], goes := true, laidByText := true, laidKinds := [.funcs, .funcs, .funcs], laidTests := true, laidLooks := .later }
def RentAnyOrderUptoCardSaid : Prop := Claim7.holds Tryd.pinned (.plain (OpenSpec.upto rentAnyOrderSpec)) rentAnyOrderUptoCard

/-- THE SECOND FORM's CARD OF 'baudotlaw09.RentDirect'. -/
def rentDirectUptoCard : Claim7 := { stood := { row := rentDirectUptoRow, standIns := [], harness := (true, "72ef7cba7f7fd8f165ce5e08d99ae6adf001f8a416de6ee8962cf05e685c9f16"), looks := false }, kinds := [], alts := [], goes := true, laidByText := true, laidKinds := [.funcs, .funcs, .funcs], laidTests := true, laidLooks := .later }
def RentDirectUptoCardSaid : Prop := Claim7.holds Tryd.pinned (.plain (OpenSpec.upto rentDirectSpec)) rentDirectUptoCard

/-- THE SECOND FORM's CARD OF 'baudotlaw09.RentNews'. -/
def rentNewsUptoCard : Claim7 := { stood := { row := rentNewsUptoRow, standIns := [], harness := (true, "72ef7cba7f7fd8f165ce5e08d99ae6adf001f8a416de6ee8962cf05e685c9f16"), looks := false }, kinds := [], alts := [], goes := true, laidByText := true, laidKinds := [.funcs, .funcs, .funcs], laidTests := true, laidLooks := .later }
def RentNewsUptoCardSaid : Prop := Claim7.holds Tryd.pinned (.plain (OpenSpec.upto rentNewsSpec)) rentNewsUptoCard
end Rows
end Go.Proofs.YtaikibfkggglgaaDoor
