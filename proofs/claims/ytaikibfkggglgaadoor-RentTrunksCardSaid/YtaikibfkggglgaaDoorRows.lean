/-
  NARROWER THAN 'FOR EVERY INPUT', by the rows' own cells (each row's printed sentence says how): RentTrunks: laid · RentReal: laid · RentLacks: laid · RentSpare: laid · RentCheapest: laid · RentMoreTrunks: laid · RentMoreCalls: laid · RentYear: laid · RentAnyOrder: laid · RentDirect: laid · RentNews: laid.
  DERIVED. THE GIVEN ROWS OF THIS SEAT. 11 by the template 'for every input the law returns true; each argument reads behind the call as it read before'; 0 by the template 'total and deterministic' (their statements: YtaikibfkggglgaaDoorTotals.lean).
  GIVEN WITH THE SEED: the statements are not yours to turn. If you find one false, say at which input.
  Laid BY PROGRAM, IN A SANDBOX (cutbox-rows.mjs): the forced cells as the released guide's own fill.sh prints them over the translation 7c70f5f1382469c2… (all of the seat's roots in one cut). By AI agents, Wed Nov 11 2026. No macro, syntax, notation, axiom, sorry.
-/
import Derived.Test.YtaikibfkggglgaaDoorChecked
import GoSem.Claim
import GoSem.ClaimJoined
import GoSem.ClaimMapViews
import Derived.JoinedTies
import Derived.KernelRfl
namespace Go.Proofs.YtaikibfkggglgaaDoor
/- THE CELL 'sum', in the pinned program and in every row, IS THE sha256 OF THE DUMP (.gsa) THAT YtaikibfkggglgaaDoorProg.lean LOADS. Nothing in Lean hashes anything: it is a label: what it is worth is what the hold of that sum in a sandbox is worth. -/
noncomputable def Tryd.pinned : Pinned := { name := "ytaikibfkggglgaadoor", sum := "7c70f5f1382469c2d93664218e6b0ae6958502758d4844b4b660f46ecccfb7f1", checked := Tryd.checked }
namespace Rows
def none {H : Type} : Left H := { results := [], args := [] }

/- WHAT THE LISTED PACKAGE-LEVEL VARIABLES READ AS WHEN THE CALL BEGINS. Each datum BY PROGRAM (the guide's laid-datum.mjs) off the statement by which the dump's own 'gosem.cut.vars' lays the variable. In a bare row this is a premise. The card (YtaikibfkggglgaaDoorCards.lean) ties it to the program's text. -/
def laid_baudot_rent_checks {H : Type} : DataW H := .iface "func table" (.agg [.iface "func" (.lit (.string [40, 98, 97, 117, 100, 111, 116, 47, 114, 101, 110, 116, 46, 98, 111, 111, 107, 41, 46, 104, 111, 117, 114, 115])), .iface "func" (.lit (.string [40, 98, 97, 117, 100, 111, 116, 47, 114, 101, 110, 116, 46, 98, 111, 111, 107, 41, 46, 116, 111, 119, 110, 115])), .iface "func" (.lit (.string [40, 98, 97, 117, 100, 111, 116, 47, 114, 101, 110, 116, 46, 98, 111, 111, 107, 41, 46, 108, 105, 110, 107, 115])), .iface "func" (.lit (.string [40, 98, 97, 117, 100, 111, 116, 47, 114, 101, 110, 116, 46, 98, 111, 111, 107, 41, 46, 112, 97, 105, 114, 115]))])
def laid_baudot_rent_fewest {H : Type} : DataW H := .iface "func table" (.agg [.iface "func" (.lit (.string [98, 97, 117, 100, 111, 116, 47, 114, 101, 110, 116, 46, 102, 101, 119, 101, 115, 116, 36, 49]))])
def laid_baudot_rent_most {H : Type} : DataW H := .iface "func table" (.agg [.iface "func" (.lit (.string [98, 97, 117, 100, 111, 116, 47, 114, 101, 110, 116, 46, 109, 111, 115, 116, 36, 49]))])

/-- 'baudotlaw09.RentTrunks': WHATEVER THE INPUT: true; the input reads as it did. -/
def rentTrunksSpec : ChangeSpec := { name := "rentTrunks", fn := fun _ => fun
  | [d1, d2, d3, d4] => { results := [.lit (.bool true)], args := [d1, d2, d3, d4] }
  | _ => none }
def rentTrunksRow : OpenClaim := { program := "ytaikibfkggglgaadoor", sum := "7c70f5f1382469c2d93664218e6b0ae6958502758d4844b4b660f46ecccfb7f1", func := "baudot/baudotlaw09.RentTrunks", spec := "rentTrunks", unfollowed := true, recurses := true, named := ["baudot/rent.checks", "baudot/rent.most", "baudot/rent.fewest"], plainKeys := false, leaving := true, apart := false, laid := [("baudot/rent.checks", laid_baudot_rent_checks), ("baudot/rent.fewest", laid_baudot_rent_fewest), ("baudot/rent.most", laid_baudot_rent_most)] }
def RentTrunksSaid : Prop := rentTrunksRow.holds Tryd.pinned (OpenSpec.ofChange rentTrunksSpec)

/-- ITS FALSE NEIGHBOUR: 'it returns false'. Refute it at one input. -/
def rentTrunksWrong : ChangeSpec := { name := "rentTrunks", fn := fun _ => fun
  | [d1, d2, d3, d4] => { results := [.lit (.bool false)], args := [d1, d2, d3, d4] }
  | _ => none }
def RentTrunksWrongFalsely : Prop := rentTrunksRow.holds Tryd.pinned (OpenSpec.ofChange rentTrunksWrong)

/-- 'baudotlaw09.RentReal': WHATEVER THE INPUT: true; the input reads as it did. -/
def rentRealSpec : ChangeSpec := { name := "rentReal", fn := fun _ => fun
  | [d1, d2, d3, d4] => { results := [.lit (.bool true)], args := [d1, d2, d3, d4] }
  | _ => none }
def rentRealRow : OpenClaim := { program := "ytaikibfkggglgaadoor", sum := "7c70f5f1382469c2d93664218e6b0ae6958502758d4844b4b660f46ecccfb7f1", func := "baudot/baudotlaw09.RentReal", spec := "rentReal", unfollowed := true, recurses := true, named := ["baudot/rent.checks", "baudot/rent.most", "baudot/rent.fewest"], plainKeys := false, leaving := true, apart := false, laid := [("baudot/rent.checks", laid_baudot_rent_checks), ("baudot/rent.fewest", laid_baudot_rent_fewest), ("baudot/rent.most", laid_baudot_rent_most)] }
def RentRealSaid : Prop := rentRealRow.holds Tryd.pinned (OpenSpec.ofChange rentRealSpec)

/-- ITS FALSE NEIGHBOUR: 'it returns false'. Refute it at one input. -/
def rentRealWrong : ChangeSpec := { name := "rentReal", fn := fun _ => fun
  | [d1, d2, d3, d4] => { results := [.lit (.bool false)], args := [d1, d2, d3, d4] }
  | _ => none }
def RentRealWrongFalsely : Prop := rentRealRow.holds Tryd.pinned (OpenSpec.ofChange rentRealWrong)

/-- 'baudotlaw09.RentLacks': WHATEVER THE INPUT: true; the input reads as it did. -/
def rentLacksSpec : ChangeSpec := { name := "rentLacks", fn := fun _ => fun
  | [d1, d2, d3, d4] => { results := [.lit (.bool true)], args := [d1, d2, d3, d4] }
  | _ => none }
def rentLacksRow : OpenClaim := { program := "ytaikibfkggglgaadoor", sum := "7c70f5f1382469c2d93664218e6b0ae6958502758d4844b4b660f46ecccfb7f1", func := "baudot/baudotlaw09.RentLacks", spec := "rentLacks", unfollowed := true, recurses := true, named := ["baudot/rent.checks", "baudot/rent.most", "baudot/rent.fewest"], plainKeys := false, leaving := true, apart := false, laid := [("baudot/rent.checks", laid_baudot_rent_checks), ("baudot/rent.fewest", laid_baudot_rent_fewest), ("baudot/rent.most", laid_baudot_rent_most)] }
def RentLacksSaid : Prop := rentLacksRow.holds Tryd.pinned (OpenSpec.ofChange rentLacksSpec)

/-- ITS FALSE NEIGHBOUR: 'it returns false'. Refute it at one input. -/
def rentLacksWrong : ChangeSpec := { name := "rentLacks", fn := fun _ => fun
  | [d1, d2, d3, d4] => { results := [.lit (.bool false)], args := [d1, d2, d3, d4] }
  | _ => none }
def RentLacksWrongFalsely : Prop := rentLacksRow.holds Tryd.pinned (OpenSpec.ofChange rentLacksWrong)

/-- 'baudotlaw09.RentSpare': WHATEVER THE INPUT: true; the input reads as it did. -/
def rentSpareSpec : ChangeSpec := { name := "rentSpare", fn := fun _ => fun
  | [d1, d2, d3] => { results := [.lit (.bool true)], args := [d1, d2, d3] }
  | _ => none }
def rentSpareRow : OpenClaim := { program := "ytaikibfkggglgaadoor", sum := "7c70f5f1382469c2d93664218e6b0ae6958502758d4844b4b660f46ecccfb7f1", func := "baudot/baudotlaw09.RentSpare", spec := "rentSpare", unfollowed := true, recurses := true, named := ["baudot/rent.checks", "baudot/rent.most", "baudot/rent.fewest"], plainKeys := false, leaving := true, apart := false, laid := [("baudot/rent.checks", laid_baudot_rent_checks), ("baudot/rent.fewest", laid_baudot_rent_fewest), ("baudot/rent.most", laid_baudot_rent_most)] }
def RentSpareSaid : Prop := rentSpareRow.holds Tryd.pinned (OpenSpec.ofChange rentSpareSpec)

/-- ITS FALSE NEIGHBOUR: 'it returns false'. Refute it at one input. -/
def rentSpareWrong : ChangeSpec := { name := "rentSpare", fn := fun _ => fun
  | [d1, d2, d3] => { results := [.lit (.bool false)], args := [d1, d2, d3] }
  | _ => none }
def RentSpareWrongFalsely : Prop := rentSpareRow.holds Tryd.pinned (OpenSpec.ofChange rentSpareWrong)

/-- 'baudotlaw09.RentCheapest': WHATEVER THE INPUT: true; the input reads as it did. -/
def rentCheapestSpec : ChangeSpec := { name := "rentCheapest", fn := fun _ => fun
  | [d1, d2, d3] => { results := [.lit (.bool true)], args := [d1, d2, d3] }
  | _ => none }
def rentCheapestRow : OpenClaim := { program := "ytaikibfkggglgaadoor", sum := "7c70f5f1382469c2d93664218e6b0ae6958502758d4844b4b660f46ecccfb7f1", func := "baudot/baudotlaw09.RentCheapest", spec := "rentCheapest", unfollowed := true, recurses := true, named := ["baudot/rent.checks", "baudot/rent.most", "baudot/rent.fewest"], plainKeys := false, leaving := true, apart := false, laid := [("baudot/rent.checks", laid_baudot_rent_checks), ("baudot/rent.fewest", laid_baudot_rent_fewest), ("baudot/rent.most", laid_baudot_rent_most)] }
def RentCheapestSaid : Prop := rentCheapestRow.holds Tryd.pinned (OpenSpec.ofChange rentCheapestSpec)

/-- ITS FALSE NEIGHBOUR: 'it returns false'. Refute it at one input. -/
def rentCheapestWrong : ChangeSpec := { name := "rentCheapest", fn := fun _ => fun
  | [d1, d2, d3] => { results := [.lit (.bool false)], args := [d1, d2, d3] }
  | _ => none }
def RentCheapestWrongFalsely : Prop := rentCheapestRow.holds Tryd.pinned (OpenSpec.ofChange rentCheapestWrong)

/-- 'baudotlaw09.RentMoreTrunks': WHATEVER THE INPUT: true; the input reads as it did. -/
def rentMoreTrunksSpec : ChangeSpec := { name := "rentMoreTrunks", fn := fun _ => fun
  | [d1, d2, d3] => { results := [.lit (.bool true)], args := [d1, d2, d3] }
  | _ => none }
def rentMoreTrunksRow : OpenClaim := { program := "ytaikibfkggglgaadoor", sum := "7c70f5f1382469c2d93664218e6b0ae6958502758d4844b4b660f46ecccfb7f1", func := "baudot/baudotlaw09.RentMoreTrunks", spec := "rentMoreTrunks", unfollowed := true, recurses := true, named := ["baudot/rent.checks", "baudot/rent.most", "baudot/rent.fewest"], plainKeys := false, leaving := true, apart := false, laid := [("baudot/rent.checks", laid_baudot_rent_checks), ("baudot/rent.fewest", laid_baudot_rent_fewest), ("baudot/rent.most", laid_baudot_rent_most)] }
def RentMoreTrunksSaid : Prop := rentMoreTrunksRow.holds Tryd.pinned (OpenSpec.ofChange rentMoreTrunksSpec)

/-- ITS FALSE NEIGHBOUR: 'it returns false'. Refute it at one input. -/
def rentMoreTrunksWrong : ChangeSpec := { name := "rentMoreTrunks", fn := fun _ => fun
  | [d1, d2, d3] => { results := [.lit (.bool false)], args := [d1, d2, d3] }
  | _ => none }
def RentMoreTrunksWrongFalsely : Prop := rentMoreTrunksRow.holds Tryd.pinned (OpenSpec.ofChange rentMoreTrunksWrong)

/-- 'baudotlaw09.RentMoreCalls': WHATEVER THE INPUT: true; the input reads as it did. -/
def rentMoreCallsSpec : ChangeSpec := { name := "rentMoreCalls", fn := fun _ => fun
  | [d1, d2, d3, d4] => { results := [.lit (.bool true)], args := [d1, d2, d3, d4] }
  | _ => none }
def rentMoreCallsRow : OpenClaim := { program := "ytaikibfkggglgaadoor", sum := "7c70f5f1382469c2d93664218e6b0ae6958502758d4844b4b660f46ecccfb7f1", func := "baudot/baudotlaw09.RentMoreCalls", spec := "rentMoreCalls", unfollowed := true, recurses := true, named := ["baudot/rent.checks", "baudot/rent.most", "baudot/rent.fewest"], plainKeys := false, leaving := true, apart := false, laid := [("baudot/rent.checks", laid_baudot_rent_checks), ("baudot/rent.fewest", laid_baudot_rent_fewest), ("baudot/rent.most", laid_baudot_rent_most)] }
def RentMoreCallsSaid : Prop := rentMoreCallsRow.holds Tryd.pinned (OpenSpec.ofChange rentMoreCallsSpec)

/-- ITS FALSE NEIGHBOUR: 'it returns false'. Refute it at one input. -/
def rentMoreCallsWrong : ChangeSpec := { name := "rentMoreCalls", fn := fun _ => fun
  | [d1, d2, d3, d4] => { results := [.lit (.bool false)], args := [d1, d2, d3, d4] }
  | _ => none }
def RentMoreCallsWrongFalsely : Prop := rentMoreCallsRow.holds Tryd.pinned (OpenSpec.ofChange rentMoreCallsWrong)

/-- 'baudotlaw09.RentYear': WHATEVER THE INPUT: true; the input reads as it did. -/
def rentYearSpec : ChangeSpec := { name := "rentYear", fn := fun _ => fun
  | [d1, d2, d3, d4] => { results := [.lit (.bool true)], args := [d1, d2, d3, d4] }
  | _ => none }
def rentYearRow : OpenClaim := { program := "ytaikibfkggglgaadoor", sum := "7c70f5f1382469c2d93664218e6b0ae6958502758d4844b4b660f46ecccfb7f1", func := "baudot/baudotlaw09.RentYear", spec := "rentYear", unfollowed := true, recurses := true, named := ["baudot/rent.checks", "baudot/rent.most", "baudot/rent.fewest"], plainKeys := false, leaving := true, apart := false, laid := [("baudot/rent.checks", laid_baudot_rent_checks), ("baudot/rent.fewest", laid_baudot_rent_fewest), ("baudot/rent.most", laid_baudot_rent_most)] }
def RentYearSaid : Prop := rentYearRow.holds Tryd.pinned (OpenSpec.ofChange rentYearSpec)

/-- ITS FALSE NEIGHBOUR: 'it returns false'. Refute it at one input. -/
def rentYearWrong : ChangeSpec := { name := "rentYear", fn := fun _ => fun
  | [d1, d2, d3, d4] => { results := [.lit (.bool false)], args := [d1, d2, d3, d4] }
  | _ => none }
def RentYearWrongFalsely : Prop := rentYearRow.holds Tryd.pinned (OpenSpec.ofChange rentYearWrong)

/-- 'baudotlaw09.RentAnyOrder': WHATEVER THE INPUT: true; the input reads as it did. -/
def rentAnyOrderSpec : ChangeSpec := { name := "rentAnyOrder", fn := fun _ => fun
  | [d1, d2, d3] => { results := [.lit (.bool true)], args := [d1, d2, d3] }
  | _ => none }
def rentAnyOrderRow : OpenClaim := { program := "ytaikibfkggglgaadoor", sum := "7c70f5f1382469c2d93664218e6b0ae6958502758d4844b4b660f46ecccfb7f1", func := "baudot/baudotlaw09.RentAnyOrder", spec := "rentAnyOrder", unfollowed := true, recurses := true, named := ["baudot/rent.checks", "baudot/rent.most", "baudot/rent.fewest"], plainKeys := false, leaving := true, apart := false, laid := [("baudot/rent.checks", laid_baudot_rent_checks), ("baudot/rent.fewest", laid_baudot_rent_fewest), ("baudot/rent.most", laid_baudot_rent_most)] }
def RentAnyOrderSaid : Prop := rentAnyOrderRow.holds Tryd.pinned (OpenSpec.ofChange rentAnyOrderSpec)

/-- ITS FALSE NEIGHBOUR: 'it returns false'. Refute it at one input. -/
def rentAnyOrderWrong : ChangeSpec := { name := "rentAnyOrder", fn := fun _ => fun
  | [d1, d2, d3] => { results := [.lit (.bool false)], args := [d1, d2, d3] }
  | _ => none }
def RentAnyOrderWrongFalsely : Prop := rentAnyOrderRow.holds Tryd.pinned (OpenSpec.ofChange rentAnyOrderWrong)

/-- 'baudotlaw09.RentDirect': WHATEVER THE INPUT: true; the input reads as it did. -/
def rentDirectSpec : ChangeSpec := { name := "rentDirect", fn := fun _ => fun
  | [d1, d2] => { results := [.lit (.bool true)], args := [d1, d2] }
  | _ => none }
def rentDirectRow : OpenClaim := { program := "ytaikibfkggglgaadoor", sum := "7c70f5f1382469c2d93664218e6b0ae6958502758d4844b4b660f46ecccfb7f1", func := "baudot/baudotlaw09.RentDirect", spec := "rentDirect", unfollowed := true, recurses := true, named := ["baudot/rent.checks", "baudot/rent.most", "baudot/rent.fewest"], plainKeys := false, leaving := true, apart := false, laid := [("baudot/rent.checks", laid_baudot_rent_checks), ("baudot/rent.fewest", laid_baudot_rent_fewest), ("baudot/rent.most", laid_baudot_rent_most)] }
def RentDirectSaid : Prop := rentDirectRow.holds Tryd.pinned (OpenSpec.ofChange rentDirectSpec)

/-- ITS FALSE NEIGHBOUR: 'it returns false'. Refute it at one input. -/
def rentDirectWrong : ChangeSpec := { name := "rentDirect", fn := fun _ => fun
  | [d1, d2] => { results := [.lit (.bool false)], args := [d1, d2] }
  | _ => none }
def RentDirectWrongFalsely : Prop := rentDirectRow.holds Tryd.pinned (OpenSpec.ofChange rentDirectWrong)

/-- 'baudotlaw09.RentNews': WHATEVER THE INPUT: true; the input reads as it did. -/
def rentNewsSpec : ChangeSpec := { name := "rentNews", fn := fun _ => fun
  | [d1, d2, d3, d4, d5, d6] => { results := [.lit (.bool true)], args := [d1, d2, d3, d4, d5, d6] }
  | _ => none }
def rentNewsRow : OpenClaim := { program := "ytaikibfkggglgaadoor", sum := "7c70f5f1382469c2d93664218e6b0ae6958502758d4844b4b660f46ecccfb7f1", func := "baudot/baudotlaw09.RentNews", spec := "rentNews", unfollowed := true, recurses := true, named := ["baudot/rent.checks", "baudot/rent.most", "baudot/rent.fewest"], plainKeys := false, leaving := true, apart := false, laid := [("baudot/rent.checks", laid_baudot_rent_checks), ("baudot/rent.fewest", laid_baudot_rent_fewest), ("baudot/rent.most", laid_baudot_rent_most)] }
def RentNewsSaid : Prop := rentNewsRow.holds Tryd.pinned (OpenSpec.ofChange rentNewsSpec)

/-- ITS FALSE NEIGHBOUR: 'it returns false'. Refute it at one input. -/
def rentNewsWrong : ChangeSpec := { name := "rentNews", fn := fun _ => fun
  | [d1, d2, d3, d4, d5, d6] => { results := [.lit (.bool false)], args := [d1, d2, d3, d4, d5, d6] }
  | _ => none }
def RentNewsWrongFalsely : Prop := rentNewsRow.holds Tryd.pinned (OpenSpec.ofChange rentNewsWrong)

/- THE SECOND FORM. 'bulk': how many values and letters a reading holds, each counted each time it is reached (what is shared counts as often as it is met; a slice's spare places count too). A statement '..UptoSaid' is the law's where the arguments, and the package variables that the reading takes, are together of bulk at most 1048576: NARROWER than '..Said'. Prove '..Said' where nothing that the law and all that it calls make is longer than what came in: it says more and counts as full. Else prove '..UptoSaid'. A law counts once. -/
mutual
def uptoBulk {H : Type} : DataW H → Nat
  | .lit (.string bytes) => bytes.length + 1
  | .lit _ => 1
  | .nil => 1
  | .ptr d => uptoBulk d + 1
  | .slice elems spare => uptoBulkAll elems + uptoBulkAll spare + 1
  | .agg parts => uptoBulkAll parts + 1
  | .iface _ d => uptoBulk d + 1
  | .map entries => uptoBulkEntries entries + 1
  | .held _ => 1
def uptoBulkAll {H : Type} : List (DataW H) → Nat
  | [] => 0
  | d :: r => uptoBulk d + uptoBulkAll r
def uptoBulkEntries {H : Type} : List (Lit × DataW H) → Nat
  | [] => 0
  | x :: r => uptoBulkEntry x + uptoBulkEntries r
def uptoBulkEntry {H : Type} : Lit × DataW H → Nat
  | (.string bytes, d) => bytes.length + uptoBulk d + 1
  | (_, d) => uptoBulk d + 1
 end
def uptoSmall : (H : Type) → List (DataW H) → Bool := fun _ ds => decide (uptoBulkAll ds ≤ 1048576)
def OpenSpec.upto (s : _root_.Go.ChangeSpec) : _root_.Go.OpenSpec := { _root_.Go.OpenSpec.ofChange s with cond := some uptoSmall }

/-- 'baudotlaw09.RentTrunks', WHERE WHAT IT READS IS OF BULK AT MOST 1048576: true; the input reads as it did. -/
def rentTrunksUptoRow : OpenClaim := { program := "ytaikibfkggglgaadoor", sum := "7c70f5f1382469c2d93664218e6b0ae6958502758d4844b4b660f46ecccfb7f1", func := "baudot/baudotlaw09.RentTrunks", spec := "rentTrunks", unfollowed := true, recurses := true, named := ["baudot/rent.checks", "baudot/rent.most", "baudot/rent.fewest"], plainKeys := false, leaving := true, apart := false, laid := [("baudot/rent.checks", laid_baudot_rent_checks), ("baudot/rent.fewest", laid_baudot_rent_fewest), ("baudot/rent.most", laid_baudot_rent_most)], narrowed := true }
def RentTrunksUptoSaid : Prop := rentTrunksUptoRow.holds Tryd.pinned (OpenSpec.upto rentTrunksSpec)

/-- 'baudotlaw09.RentReal', WHERE WHAT IT READS IS OF BULK AT MOST 1048576: true; the input reads as it did. -/
def rentRealUptoRow : OpenClaim := { program := "ytaikibfkggglgaadoor", sum := "7c70f5f1382469c2d93664218e6b0ae6958502758d4844b4b660f46ecccfb7f1", func := "baudot/baudotlaw09.RentReal", spec := "rentReal", unfollowed := true, recurses := true, named := ["baudot/rent.checks", "baudot/rent.most", "baudot/rent.fewest"], plainKeys := false, leaving := true, apart := false, laid := [("baudot/rent.checks", laid_baudot_rent_checks), ("baudot/rent.fewest", laid_baudot_rent_fewest), ("baudot/rent.most", laid_baudot_rent_most)], narrowed := true }
def RentRealUptoSaid : Prop := rentRealUptoRow.holds Tryd.pinned (OpenSpec.upto rentRealSpec)

/-- 'baudotlaw09.RentLacks', WHERE WHAT IT READS IS OF BULK AT MOST 1048576: true; the input reads as it did. -/
def rentLacksUptoRow : OpenClaim := { program := "ytaikibfkggglgaadoor", sum := "7c70f5f1382469c2d93664218e6b0ae6958502758d4844b4b660f46ecccfb7f1", func := "baudot/baudotlaw09.RentLacks", spec := "rentLacks", unfollowed := true, recurses := true, named := ["baudot/rent.checks", "baudot/rent.most", "baudot/rent.fewest"], plainKeys := false, leaving := true, apart := false, laid := [("baudot/rent.checks", laid_baudot_rent_checks), ("baudot/rent.fewest", laid_baudot_rent_fewest), ("baudot/rent.most", laid_baudot_rent_most)], narrowed := true }
def RentLacksUptoSaid : Prop := rentLacksUptoRow.holds Tryd.pinned (OpenSpec.upto rentLacksSpec)

/-- 'baudotlaw09.RentSpare', WHERE WHAT IT READS IS OF BULK AT MOST 1048576: true; the input reads as it did. -/
def rentSpareUptoRow : OpenClaim := { program := "ytaikibfkggglgaadoor", sum := "7c70f5f1382469c2d93664218e6b0ae6958502758d4844b4b660f46ecccfb7f1", func := "baudot/baudotlaw09.RentSpare", spec := "rentSpare", unfollowed := true, recurses := true, named := ["baudot/rent.checks", "baudot/rent.most", "baudot/rent.fewest"], plainKeys := false, leaving := true, apart := false, laid := [("baudot/rent.checks", laid_baudot_rent_checks), ("baudot/rent.fewest", laid_baudot_rent_fewest), ("baudot/rent.most", laid_baudot_rent_most)], narrowed := true }
def RentSpareUptoSaid : Prop := rentSpareUptoRow.holds Tryd.pinned (OpenSpec.upto rentSpareSpec)

/-- 'baudotlaw09.RentCheapest', WHERE WHAT IT READS IS OF BULK AT MOST 1048576: true; the input reads as it did. -/
def rentCheapestUptoRow : OpenClaim := { program := "ytaikibfkggglgaadoor", sum := "7c70f5f1382469c2d93664218e6b0ae6958502758d4844b4b660f46ecccfb7f1", func := "baudot/baudotlaw09.RentCheapest", spec := "rentCheapest", unfollowed := true, recurses := true, named := ["baudot/rent.checks", "baudot/rent.most", "baudot/rent.fewest"], plainKeys := false, leaving := true, apart := false, laid := [("baudot/rent.checks", laid_baudot_rent_checks), ("baudot/rent.fewest", laid_baudot_rent_fewest), ("baudot/rent.most", laid_baudot_rent_most)], narrowed := true }
def RentCheapestUptoSaid : Prop := rentCheapestUptoRow.holds Tryd.pinned (OpenSpec.upto rentCheapestSpec)

/-- 'baudotlaw09.RentMoreTrunks', WHERE WHAT IT READS IS OF BULK AT MOST 1048576: true; the input reads as it did. -/
def rentMoreTrunksUptoRow : OpenClaim := { program := "ytaikibfkggglgaadoor", sum := "7c70f5f1382469c2d93664218e6b0ae6958502758d4844b4b660f46ecccfb7f1", func := "baudot/baudotlaw09.RentMoreTrunks", spec := "rentMoreTrunks", unfollowed := true, recurses := true, named := ["baudot/rent.checks", "baudot/rent.most", "baudot/rent.fewest"], plainKeys := false, leaving := true, apart := false, laid := [("baudot/rent.checks", laid_baudot_rent_checks), ("baudot/rent.fewest", laid_baudot_rent_fewest), ("baudot/rent.most", laid_baudot_rent_most)], narrowed := true }
def RentMoreTrunksUptoSaid : Prop := rentMoreTrunksUptoRow.holds Tryd.pinned (OpenSpec.upto rentMoreTrunksSpec)

/-- 'baudotlaw09.RentMoreCalls', WHERE WHAT IT READS IS OF BULK AT MOST 1048576: true; the input reads as it did. -/
def rentMoreCallsUptoRow : OpenClaim := { program := "ytaikibfkggglgaadoor", sum := "7c70f5f1382469c2d93664218e6b0ae6958502758d4844b4b660f46ecccfb7f1", func := "baudot/baudotlaw09.RentMoreCalls", spec := "rentMoreCalls", unfollowed := true, recurses := true, named := ["baudot/rent.checks", "baudot/rent.most", "baudot/rent.fewest"], plainKeys := false, leaving := true, apart := false, laid := [("baudot/rent.checks", laid_baudot_rent_checks), ("baudot/rent.fewest", laid_baudot_rent_fewest), ("baudot/rent.most", laid_baudot_rent_most)], narrowed := true }
def RentMoreCallsUptoSaid : Prop := rentMoreCallsUptoRow.holds Tryd.pinned (OpenSpec.upto rentMoreCallsSpec)

/-- 'baudotlaw09.RentYear', WHERE WHAT IT READS IS OF BULK AT MOST 1048576: true; the input reads as it did. -/
def rentYearUptoRow : OpenClaim := { program := "ytaikibfkggglgaadoor", sum := "7c70f5f1382469c2d93664218e6b0ae6958502758d4844b4b660f46ecccfb7f1", func := "baudot/baudotlaw09.RentYear", spec := "rentYear", unfollowed := true, recurses := true, named := ["baudot/rent.checks", "baudot/rent.most", "baudot/rent.fewest"], plainKeys := false, leaving := true, apart := false, laid := [("baudot/rent.checks", laid_baudot_rent_checks), ("baudot/rent.fewest", laid_baudot_rent_fewest), ("baudot/rent.most", laid_baudot_rent_most)], narrowed := true }
def RentYearUptoSaid : Prop := rentYearUptoRow.holds Tryd.pinned (OpenSpec.upto rentYearSpec)

/-- 'baudotlaw09.RentAnyOrder', WHERE WHAT IT READS IS OF BULK AT MOST 1048576: true; the input reads as it did. -/
def rentAnyOrderUptoRow : OpenClaim := { program := "ytaikibfkggglgaadoor", sum := "7c70f5f1382469c2d93664218e6b0ae6958502758d4844b4b660f46ecccfb7f1", func := "baudot/baudotlaw09.RentAnyOrder", spec := "rentAnyOrder", unfollowed := true, recurses := true, named := ["baudot/rent.checks", "baudot/rent.most", "baudot/rent.fewest"], plainKeys := false, leaving := true, apart := false, laid := [("baudot/rent.checks", laid_baudot_rent_checks), ("baudot/rent.fewest", laid_baudot_rent_fewest), ("baudot/rent.most", laid_baudot_rent_most)], narrowed := true }
def RentAnyOrderUptoSaid : Prop := rentAnyOrderUptoRow.holds Tryd.pinned (OpenSpec.upto rentAnyOrderSpec)

/-- 'baudotlaw09.RentDirect', WHERE WHAT IT READS IS OF BULK AT MOST 1048576: true; the input reads as it did. -/
def rentDirectUptoRow : OpenClaim := { program := "ytaikibfkggglgaadoor", sum := "7c70f5f1382469c2d93664218e6b0ae6958502758d4844b4b660f46ecccfb7f1", func := "baudot/baudotlaw09.RentDirect", spec := "rentDirect", unfollowed := true, recurses := true, named := ["baudot/rent.checks", "baudot/rent.most", "baudot/rent.fewest"], plainKeys := false, leaving := true, apart := false, laid := [("baudot/rent.checks", laid_baudot_rent_checks), ("baudot/rent.fewest", laid_baudot_rent_fewest), ("baudot/rent.most", laid_baudot_rent_most)], narrowed := true }
def RentDirectUptoSaid : Prop := rentDirectUptoRow.holds Tryd.pinned (OpenSpec.upto rentDirectSpec)

/-- 'baudotlaw09.RentNews', WHERE WHAT IT READS IS OF BULK AT MOST 1048576: true; the input reads as it did. -/
def rentNewsUptoRow : OpenClaim := { program := "ytaikibfkggglgaadoor", sum := "7c70f5f1382469c2d93664218e6b0ae6958502758d4844b4b660f46ecccfb7f1", func := "baudot/baudotlaw09.RentNews", spec := "rentNews", unfollowed := true, recurses := true, named := ["baudot/rent.checks", "baudot/rent.most", "baudot/rent.fewest"], plainKeys := false, leaving := true, apart := false, laid := [("baudot/rent.checks", laid_baudot_rent_checks), ("baudot/rent.fewest", laid_baudot_rent_fewest), ("baudot/rent.most", laid_baudot_rent_most)], narrowed := true }
def RentNewsUptoSaid : Prop := rentNewsUptoRow.holds Tryd.pinned (OpenSpec.upto rentNewsSpec)

end Rows
end Go.Proofs.YtaikibfkggglgaaDoor
