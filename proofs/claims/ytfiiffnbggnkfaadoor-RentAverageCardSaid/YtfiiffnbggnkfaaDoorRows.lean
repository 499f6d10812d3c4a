/-
  NARROWER THAN 'FOR EVERY INPUT', by the rows' own cells (each row's printed sentence says how): RentAverage: laid.
  DERIVED. THE GIVEN ROWS OF THIS SEAT. 1 by the template 'for every input the law returns true; each argument reads behind the call as it read before'; 0 by the template 'total and deterministic' (their statements: YtfiiffnbggnkfaaDoorTotals.lean).
  GIVEN WITH THE SEED: the statements are not yours to turn. If you find one false, say at which input.
  Laid BY PROGRAM, IN A SANDBOX (cutbox-rows.mjs): the forced cells as the released guide's own fill.sh prints them over the translation 6dde396a4f7f9f91… (all of the seat's roots in one cut). By AI agents, Wed Nov 11 2026. No macro, syntax, notation, axiom, sorry.
-/
import Derived.Test.YtfiiffnbggnkfaaDoorChecked
import GoSem.Claim
import GoSem.ClaimJoined
import GoSem.ClaimMapViews
import Derived.JoinedTies
import Derived.KernelRfl
namespace Go.Proofs.YtfiiffnbggnkfaaDoor
/- THE CELL 'sum', in the pinned program and in every row, IS THE sha256 OF THE DUMP (.gsa) THAT YtfiiffnbggnkfaaDoorProg.lean LOADS. Nothing in Lean hashes anything: it is a label: what it is worth is what the hold of that sum in a sandbox is worth. -/
noncomputable def Tryd.pinned : Pinned := { name := "ytfiiffnbggnkfaadoor", sum := "6dde396a4f7f9f91e92a96c63c2e589b4ae8f5357f2cacc40231ade715797ca6", checked := Tryd.checked }
namespace Rows
def none {H : Type} : Left H := { results := [], args := [] }

/- WHAT THE LISTED PACKAGE-LEVEL VARIABLES READ AS WHEN THE CALL BEGINS. Each datum BY PROGRAM (the guide's laid-datum.mjs) off the statement by which the dump's own 'gosem.cut.vars' lays the variable. In a bare row this is a premise. The card (YtfiiffnbggnkfaaDoorCards.lean) ties it to the program's text. -/
def laid_baudot_rent_checks {H : Type} : DataW H := .iface "func table" (.agg [.iface "func" (.lit (.string [40, 98, 97, 117, 100, 111, 116, 47, 114, 101, 110, 116, 46, 98, 111, 111, 107, 41, 46, 104, 111, 117, 114, 115])), .iface "func" (.lit (.string [40, 98, 97, 117, 100, 111, 116, 47, 114, 101, 110, 116, 46, 98, 111, 111, 107, 41, 46, 116, 111, 119, 110, 115])), .iface "func" (.lit (.string [40, 98, 97, 117, 100, 111, 116, 47, 114, 101, 110, 116, 46, 98, 111, 111, 107, 41, 46, 108, 105, 110, 107, 115])), .iface "func" (.lit (.string [40, 98, 97, 117, 100, 111, 116, 47, 114, 101, 110, 116, 46, 98, 111, 111, 107, 41, 46, 112, 97, 105, 114, 115]))])
def laid_baudot_rent_fewest {H : Type} : DataW H := .iface "func table" (.agg [.iface "func" (.lit (.string [98, 97, 117, 100, 111, 116, 47, 114, 101, 110, 116, 46, 102, 101, 119, 101, 115, 116, 36, 49]))])
def laid_baudot_rent_most {H : Type} : DataW H := .iface "func table" (.agg [.iface "func" (.lit (.string [98, 97, 117, 100, 111, 116, 47, 114, 101, 110, 116, 46, 109, 111, 115, 116, 36, 49]))])

/-- 'baudotlaw09.RentAverage': WHATEVER THE INPUT: true; the input reads as it did. -/
def rentAverageSpec : ChangeSpec := { name := "rentAverage", fn := fun _ => fun
  | [d1, d2, d3, d4, d5, d6] => { results := [.lit (.bool true)], args := [d1, d2, d3, d4, d5, d6] }
  | _ => none }
def rentAverageRow : OpenClaim := { program := "ytfiiffnbggnkfaadoor", sum := "6dde396a4f7f9f91e92a96c63c2e589b4ae8f5357f2cacc40231ade715797ca6", func := "baudot/baudotlaw09.RentAverage", spec := "rentAverage", unfollowed := true, recurses := true, named := ["baudot/rent.checks", "baudot/rent.most", "baudot/rent.fewest"], plainKeys := false, leaving := true, apart := false, laid := [("baudot/rent.checks", laid_baudot_rent_checks), ("baudot/rent.fewest", laid_baudot_rent_fewest), ("baudot/rent.most", laid_baudot_rent_most)] }
def RentAverageSaid : Prop := rentAverageRow.holds Tryd.pinned (OpenSpec.ofChange rentAverageSpec)

/-- ITS FALSE NEIGHBOUR: 'it returns false'. Refute it at one input. -/
def rentAverageWrong : ChangeSpec := { name := "rentAverage", fn := fun _ => fun
  | [d1, d2, d3, d4, d5, d6] => { results := [.lit (.bool false)], args := [d1, d2, d3, d4, d5, d6] }
  | _ => none }
def RentAverageWrongFalsely : Prop := rentAverageRow.holds Tryd.pinned (OpenSpec.ofChange rentAverageWrong)

/- THE SECOND FORM. 'bulk': how many values and letters a reading holds, each counted each time it is reached (what is shared counts as often as it is met; a slice's spare places count too). A statement '..UptoSaid' is the law's where the arguments, and the package variables that the reading takes, are together of bulk at most 1048576: NARROWER than '..Said'. Prove '..Said' where nothing that the law and all that it calls make is longer than what came in: it says more and counts as full. Else prove '..UptoSaid'. A law counts once. -/
mutual
def uptoBulk {H : Type} : DataW H → Nat
  | .lit (.string bytes) => bytes.length + 1
  | .lit _ => 1
  | .nil => 1
  | .ptr d => uptoBulk d + 1
  | .slice elems spare => uptoBulkAll elems + uptoBulkAll spare + 1
  | .agg parts => uptoBulkAll parts + 1
  | .iface _ d => uptoBulk d + 1
  | .map entries => uptoBulkEntries entries + 1
  | .held _ => 1
def uptoBulkAll {H : Type} : List (DataW H) → Nat
  | [] => 0
  | d :: r => uptoBulk d + uptoBulkAll r
def uptoBulkEntries {H : Type} : List (Lit × DataW H) → Nat
  | [] => 0
  | x :: r => uptoBulkEntry x + uptoBulkEntries r
def uptoBulkEntry {H : Type} : Lit × DataW H → Nat
  | (.string bytes, d) => bytes.length + uptoBulk d + 1
  | (_, d) => uptoBulk d + 1
 end
def uptoSmall : (H : Type) → List (DataW H) → Bool := fun _ ds => decide (uptoBulkAll ds ≤ 1048576)
def OpenSpec.upto (s : _root_.Go.ChangeSpec) : _root_.Go.OpenSpec := { _root_.Go.OpenSpec.ofChange s with cond := some uptoSmall }

/-- 'baudotlaw09.RentAverage', WHERE WHAT IT READS IS OF BULK AT MOST 1048576: true; the input reads as it did. -/
def rentAverageUptoRow : OpenClaim := { program := "ytfiiffnbggnkfaadoor", sum := "6dde396a4f7f9f91e92a96c63c2e589b4ae8f5357f2cacc40231ade715797ca6", func := "baudot/baudotlaw09.RentAverage", spec := "rentAverage", unfollowed := true, recurses := true, named := ["baudot/rent.checks", "baudot/rent.most", "baudot/rent.fewest"], plainKeys := false, leaving := true, apart := false, laid := [("baudot/rent.checks", laid_baudot_rent_checks), ("baudot/rent.fewest", laid_baudot_rent_fewest), ("baudot/rent.most", laid_baudot_rent_most)], narrowed := true }
def RentAverageUptoSaid : Prop := rentAverageUptoRow.holds Tryd.pinned (OpenSpec.upto rentAverageSpec)

end Rows
end Go.Proofs.YtfiiffnbggnkfaaDoor
