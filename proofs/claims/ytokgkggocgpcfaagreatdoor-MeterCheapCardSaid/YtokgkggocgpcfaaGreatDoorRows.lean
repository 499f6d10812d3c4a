/-
  NARROWER THAN 'FOR EVERY INPUT', by the rows' own cells (each row's printed sentence says how): MeterBills: laid · MeterPhotos: laid · MeterExact: laid · MeterEither: laid · MeterCheap: laid · MeterNews: laid · MeterAnyOrder: laid · MeterReadings: laid · MeterReal: laid · MeterShown: laid · MeterClash: laid · MeterAsked: laid · MeterPrices: laid · MeterSeconds: laid.
  DERIVED. THE GIVEN ROWS OF THIS SEAT. 14 by the template 'for every input the law returns true; each argument reads behind the call as it read before'; 0 by the template 'total and deterministic' (their statements: YtokgkggocgpcfaaGreatDoorTotals.lean).
  GIVEN WITH THE SEED: the statements are not yours to turn. If you find one false, say at which input.
  Laid BY PROGRAM, IN A SANDBOX (cutbox-rows.mjs): the forced cells as the released guide's own fill.sh prints them over the translation c2747580ce55b9e5… (all of the seat's roots in one cut). By AI agents, Wed Nov 11 2026. No macro, syntax, notation, axiom, sorry.
-/
import Derived.Test.YtokgkggocgpcfaaGreatDoorChecked
import GoSem.Claim
import GoSem.ClaimJoined
import GoSem.ClaimMapViews
import Derived.JoinedTies
import Derived.KernelRfl
namespace Go.Proofs.YtokgkggocgpcfaaGreatDoor
/- THE CELL 'sum', in the pinned program and in every row, IS THE sha256 OF THE DUMP (.gsa) THAT YtokgkggocgpcfaaGreatDoorProg.lean LOADS. Nothing in Lean hashes anything: it is a label: what it is worth is what the hold of that sum in a sandbox is worth. -/
noncomputable def Tryz.pinned : Pinned := { name := "ytokgkggocgpcfaagreatdoor", sum := "c2747580ce55b9e5ecd4b543e02e6e762096b562dd722bf58d212e3cef469d65", checked := Tryz.checked }
namespace Rows
def none {H : Type} : Left H := { results := [], args := [] }

/- WHAT THE LISTED PACKAGE-LEVEL VARIABLES READ AS WHEN THE CALL BEGINS. Each datum BY PROGRAM (the guide's laid-datum.mjs) off the statement by which the dump's own 'gosem.cut.vars' lays the variable. In a bare row this is a premise. The card (YtokgkggocgpcfaaGreatDoorCards.lean) ties it to the program's text. -/
def laid_baudot_meter_checks {H : Type} : DataW H := .iface "func table" (.agg [.iface "func" (.lit (.string [40, 98, 97, 117, 100, 111, 116, 47, 109, 101, 116, 101, 114, 46, 98, 111, 111, 107, 41, 46, 100, 97, 121, 115])), .iface "func" (.lit (.string [40, 98, 97, 117, 100, 111, 116, 47, 109, 101, 116, 101, 114, 46, 98, 111, 111, 107, 41, 46, 122, 111, 110, 101, 115])), .iface "func" (.lit (.string [40, 98, 97, 117, 100, 111, 116, 47, 109, 101, 116, 101, 114, 46, 98, 111, 111, 107, 41, 46, 115, 117, 98, 115, 99, 114, 105, 98, 101, 114, 115])), .iface "func" (.lit (.string [40, 98, 97, 117, 100, 111, 116, 47, 109, 101, 116, 101, 114, 46, 98, 111, 111, 107, 41, 46, 99, 97, 108, 108, 115])), .iface "func" (.lit (.string [40, 98, 97, 117, 100, 111, 116, 47, 109, 101, 116, 101, 114, 46, 98, 111, 111, 107, 41, 46, 112, 104, 111, 116, 111, 115]))])

/-- 'baudotlaw07.MeterBills': WHATEVER THE INPUT: true; the input reads as it did. -/
def meterBillsSpec : ChangeSpec := { name := "meterBills", fn := fun _ => fun
  | [d1, d2, d3, d4, d5] => { results := [.lit (.bool true)], args := [d1, d2, d3, d4, d5] }
  | _ => none }
def meterBillsRow : OpenClaim := { program := "ytokgkggocgpcfaagreatdoor", sum := "c2747580ce55b9e5ecd4b543e02e6e762096b562dd722bf58d212e3cef469d65", func := "baudot/baudotlaw07.MeterBills", spec := "meterBills", inPlace := ["(*sync.WaitGroup).Add", "internal/race.ReleaseMerge", "internal/race.Disable", "internal/race.Enable", "internal/synctest.IsInBubble", "internal/synctest.Associate[sync.WaitGroup]", "sync.fatal", "sync/atomic.OrUint64", "sync/atomic.AddUint64", "internal/race.Read", "sync/atomic.LoadUint64", "sync/atomic.StoreUint64", "internal/synctest.Disassociate[sync.WaitGroup]", "sync.runtime_Semrelease", "(*sync.WaitGroup).Done", "(*sync.WaitGroup).Wait", "internal/race.Acquire", "internal/synctest.IsAssociated[sync.WaitGroup]", "sync/atomic.CompareAndSwapUint64", "internal/race.Write", "sync.runtime_SemacquireWaitGroup"], unfollowed := true, recurses := true, named := ["baudot/meter.checks"], plainKeys := false, leaving := true, apart := false, laid := [("baudot/meter.checks", laid_baudot_meter_checks)] }
def MeterBillsSaid : Prop := meterBillsRow.holds Tryz.pinned (OpenSpec.ofChange meterBillsSpec)

/-- ITS FALSE NEIGHBOUR: 'it returns false'. Refute it at one input. -/
def meterBillsWrong : ChangeSpec := { name := "meterBills", fn := fun _ => fun
  | [d1, d2, d3, d4, d5] => { results := [.lit (.bool false)], args := [d1, d2, d3, d4, d5] }
  | _ => none }
def MeterBillsWrongFalsely : Prop := meterBillsRow.holds Tryz.pinned (OpenSpec.ofChange meterBillsWrong)

/-- 'baudotlaw07.MeterPhotos': WHATEVER THE INPUT: true; the input reads as it did. -/
def meterPhotosSpec : ChangeSpec := { name := "meterPhotos", fn := fun _ => fun
  | [d1, d2] => { results := [.lit (.bool true)], args := [d1, d2] }
  | _ => none }
def meterPhotosRow : OpenClaim := { program := "ytokgkggocgpcfaagreatdoor", sum := "c2747580ce55b9e5ecd4b543e02e6e762096b562dd722bf58d212e3cef469d65", func := "baudot/baudotlaw07.MeterPhotos", spec := "meterPhotos", inPlace := ["(*sync.WaitGroup).Add", "internal/race.ReleaseMerge", "internal/race.Disable", "internal/race.Enable", "internal/synctest.IsInBubble", "internal/synctest.Associate[sync.WaitGroup]", "sync.fatal", "sync/atomic.OrUint64", "sync/atomic.AddUint64", "internal/race.Read", "sync/atomic.LoadUint64", "sync/atomic.StoreUint64", "internal/synctest.Disassociate[sync.WaitGroup]", "sync.runtime_Semrelease", "(*sync.WaitGroup).Done", "(*sync.WaitGroup).Wait", "internal/race.Acquire", "internal/synctest.IsAssociated[sync.WaitGroup]", "sync/atomic.CompareAndSwapUint64", "internal/race.Write", "sync.runtime_SemacquireWaitGroup"], unfollowed := true, recurses := true, named := ["baudot/meter.checks"], plainKeys := false, leaving := true, apart := false, laid := [("baudot/meter.checks", laid_baudot_meter_checks)] }
def MeterPhotosSaid : Prop := meterPhotosRow.holds Tryz.pinned (OpenSpec.ofChange meterPhotosSpec)

/-- ITS FALSE NEIGHBOUR: 'it returns false'. Refute it at one input. -/
def meterPhotosWrong : ChangeSpec := { name := "meterPhotos", fn := fun _ => fun
  | [d1, d2] => { results := [.lit (.bool false)], args := [d1, d2] }
  | _ => none }
def MeterPhotosWrongFalsely : Prop := meterPhotosRow.holds Tryz.pinned (OpenSpec.ofChange meterPhotosWrong)

/-- 'baudotlaw07.MeterExact': WHATEVER THE INPUT: true; the input reads as it did. -/
def meterExactSpec : ChangeSpec := { name := "meterExact", fn := fun _ => fun
  | [d1, d2, d3, d4, d5, d6] => { results := [.lit (.bool true)], args := [d1, d2, d3, d4, d5, d6] }
  | _ => none }
def meterExactRow : OpenClaim := { program := "ytokgkggocgpcfaagreatdoor", sum := "c2747580ce55b9e5ecd4b543e02e6e762096b562dd722bf58d212e3cef469d65", func := "baudot/baudotlaw07.MeterExact", spec := "meterExact", inPlace := ["(*sync.WaitGroup).Add", "internal/race.ReleaseMerge", "internal/race.Disable", "internal/race.Enable", "internal/synctest.IsInBubble", "internal/synctest.Associate[sync.WaitGroup]", "sync.fatal", "sync/atomic.OrUint64", "sync/atomic.AddUint64", "internal/race.Read", "sync/atomic.LoadUint64", "sync/atomic.StoreUint64", "internal/synctest.Disassociate[sync.WaitGroup]", "sync.runtime_Semrelease", "(*sync.WaitGroup).Done", "(*sync.WaitGroup).Wait", "internal/race.Acquire", "internal/synctest.IsAssociated[sync.WaitGroup]", "sync/atomic.CompareAndSwapUint64", "internal/race.Write", "sync.runtime_SemacquireWaitGroup"], unfollowed := true, recurses := true, named := ["baudot/meter.checks"], plainKeys := false, leaving := true, apart := false, laid := [("baudot/meter.checks", laid_baudot_meter_checks)] }
def MeterExactSaid : Prop := meterExactRow.holds Tryz.pinned (OpenSpec.ofChange meterExactSpec)

/-- ITS FALSE NEIGHBOUR: 'it returns false'. Refute it at one input. -/
def meterExactWrong : ChangeSpec := { name := "meterExact", fn := fun _ => fun
  | [d1, d2, d3, d4, d5, d6] => { results := [.lit (.bool false)], args := [d1, d2, d3, d4, d5, d6] }
  | _ => none }
def MeterExactWrongFalsely : Prop := meterExactRow.holds Tryz.pinned (OpenSpec.ofChange meterExactWrong)

/-- 'baudotlaw07.MeterEither': WHATEVER THE INPUT: true; the input reads as it did. -/
def meterEitherSpec : ChangeSpec := { name := "meterEither", fn := fun _ => fun
  | [d1, d2, d3, d4] => { results := [.lit (.bool true)], args := [d1, d2, d3, d4] }
  | _ => none }
def meterEitherRow : OpenClaim := { program := "ytokgkggocgpcfaagreatdoor", sum := "c2747580ce55b9e5ecd4b543e02e6e762096b562dd722bf58d212e3cef469d65", func := "baudot/baudotlaw07.MeterEither", spec := "meterEither", inPlace := ["(*sync.WaitGroup).Add", "internal/race.ReleaseMerge", "internal/race.Disable", "internal/race.Enable", "internal/synctest.IsInBubble", "internal/synctest.Associate[sync.WaitGroup]", "sync.fatal", "sync/atomic.OrUint64", "sync/atomic.AddUint64", "internal/race.Read", "sync/atomic.LoadUint64", "sync/atomic.StoreUint64", "internal/synctest.Disassociate[sync.WaitGroup]", "sync.runtime_Semrelease", "(*sync.WaitGroup).Done", "(*sync.WaitGroup).Wait", "internal/race.Acquire", "internal/synctest.IsAssociated[sync.WaitGroup]", "sync/atomic.CompareAndSwapUint64", "internal/race.Write", "sync.runtime_SemacquireWaitGroup"], unfollowed := true, recurses := true, named := ["baudot/meter.checks"], plainKeys := false, leaving := true, apart := false, laid := [("baudot/meter.checks", laid_baudot_meter_checks)] }
def MeterEitherSaid : Prop := meterEitherRow.holds Tryz.pinned (OpenSpec.ofChange meterEitherSpec)

/-- ITS FALSE NEIGHBOUR: 'it returns false'. Refute it at one input. -/
def meterEitherWrong : ChangeSpec := { name := "meterEither", fn := fun _ => fun
  | [d1, d2, d3, d4] => { results := [.lit (.bool false)], args := [d1, d2, d3, d4] }
  | _ => none }
def MeterEitherWrongFalsely : Prop := meterEitherRow.holds Tryz.pinned (OpenSpec.ofChange meterEitherWrong)

/-- 'baudotlaw07.MeterCheap': WHATEVER THE INPUT: true; the input reads as it did. -/
def meterCheapSpec : ChangeSpec := { name := "meterCheap", fn := fun _ => fun
  | [d1, d2, d3, d4, d5, d6, d7] => { results := [.lit (.bool true)], args := [d1, d2, d3, d4, d5, d6, d7] }
  | _ => none }
def meterCheapRow : OpenClaim := { program := "ytokgkggocgpcfaagreatdoor", sum := "c2747580ce55b9e5ecd4b543e02e6e762096b562dd722bf58d212e3cef469d65", func := "baudot/baudotlaw07.MeterCheap", spec := "meterCheap", inPlace := ["(*sync.WaitGroup).Add", "internal/race.ReleaseMerge", "internal/race.Disable", "internal/race.Enable", "internal/synctest.IsInBubble", "internal/synctest.Associate[sync.WaitGroup]", "sync.fatal", "sync/atomic.OrUint64", "sync/atomic.AddUint64", "internal/race.Read", "sync/atomic.LoadUint64", "sync/atomic.StoreUint64", "internal/synctest.Disassociate[sync.WaitGroup]", "sync.runtime_Semrelease", "(*sync.WaitGroup).Done", "(*sync.WaitGroup).Wait", "internal/race.Acquire", "internal/synctest.IsAssociated[sync.WaitGroup]", "sync/atomic.CompareAndSwapUint64", "internal/race.Write", "sync.runtime_SemacquireWaitGroup"], unfollowed := true, recurses := true, named := ["baudot/meter.checks"], plainKeys := false, leaving := true, apart := false, laid := [("baudot/meter.checks", laid_baudot_meter_checks)] }
def MeterCheapSaid : Prop := meterCheapRow.holds Tryz.pinned (OpenSpec.ofChange meterCheapSpec)

/-- ITS FALSE NEIGHBOUR: 'it returns false'. Refute it at one input. -/
def meterCheapWrong : ChangeSpec := { name := "meterCheap", fn := fun _ => fun
  | [d1, d2, d3, d4, d5, d6, d7] => { results := [.lit (.bool false)], args := [d1, d2, d3, d4, d5, d6, d7] }
  | _ => none }
def MeterCheapWrongFalsely : Prop := meterCheapRow.holds Tryz.pinned (OpenSpec.ofChange meterCheapWrong)

/-- 'baudotlaw07.MeterNews': WHATEVER THE INPUT: true; the input reads as it did. -/
def meterNewsSpec : ChangeSpec := { name := "meterNews", fn := fun _ => fun
  | [d1, d2, d3, d4, d5, d6] => { results := [.lit (.bool true)], args := [d1, d2, d3, d4, d5, d6] }
  | _ => none }
def meterNewsRow : OpenClaim := { program := "ytokgkggocgpcfaagreatdoor", sum := "c2747580ce55b9e5ecd4b543e02e6e762096b562dd722bf58d212e3cef469d65", func := "baudot/baudotlaw07.MeterNews", spec := "meterNews", inPlace := ["(*sync.WaitGroup).Add", "internal/race.ReleaseMerge", "internal/race.Disable", "internal/race.Enable", "internal/synctest.IsInBubble", "internal/synctest.Associate[sync.WaitGroup]", "sync.fatal", "sync/atomic.OrUint64", "sync/atomic.AddUint64", "internal/race.Read", "sync/atomic.LoadUint64", "sync/atomic.StoreUint64", "internal/synctest.Disassociate[sync.WaitGroup]", "sync.runtime_Semrelease", "(*sync.WaitGroup).Done", "(*sync.WaitGroup).Wait", "internal/race.Acquire", "internal/synctest.IsAssociated[sync.WaitGroup]", "sync/atomic.CompareAndSwapUint64", "internal/race.Write", "sync.runtime_SemacquireWaitGroup"], unfollowed := true, recurses := true, named := ["baudot/meter.checks"], plainKeys := false, leaving := true, apart := false, laid := [("baudot/meter.checks", laid_baudot_meter_checks)] }
def MeterNewsSaid : Prop := meterNewsRow.holds Tryz.pinned (OpenSpec.ofChange meterNewsSpec)

/-- ITS FALSE NEIGHBOUR: 'it returns false'. Refute it at one input. -/
def meterNewsWrong : ChangeSpec := { name := "meterNews", fn := fun _ => fun
  | [d1, d2, d3, d4, d5, d6] => { results := [.lit (.bool false)], args := [d1, d2, d3, d4, d5, d6] }
  | _ => none }
def MeterNewsWrongFalsely : Prop := meterNewsRow.holds Tryz.pinned (OpenSpec.ofChange meterNewsWrong)

/-- 'baudotlaw07.MeterAnyOrder': WHATEVER THE INPUT: true; the input reads as it did. -/
def meterAnyOrderSpec : ChangeSpec := { name := "meterAnyOrder", fn := fun _ => fun
  | [d1, d2, d3, d4] => { results := [.lit (.bool true)], args := [d1, d2, d3, d4] }
  | _ => none }
def meterAnyOrderRow : OpenClaim := { program := "ytokgkggocgpcfaagreatdoor", sum := "c2747580ce55b9e5ecd4b543e02e6e762096b562dd722bf58d212e3cef469d65", func := "baudot/baudotlaw07.MeterAnyOrder", spec := "meterAnyOrder", inPlace := ["(*sync.WaitGroup).Add", "internal/race.ReleaseMerge", "internal/race.Disable", "internal/race.Enable", "internal/synctest.IsInBubble", "internal/synctest.Associate[sync.WaitGroup]", "sync.fatal", "sync/atomic.OrUint64", "sync/atomic.AddUint64", "internal/race.Read", "sync/atomic.LoadUint64", "sync/atomic.StoreUint64", "internal/synctest.Disassociate[sync.WaitGroup]", "sync.runtime_Semrelease", "(*sync.WaitGroup).Done", "(*sync.WaitGroup).Wait", "internal/race.Acquire", "internal/synctest.IsAssociated[sync.WaitGroup]", "sync/atomic.CompareAndSwapUint64", "internal/race.Write", "sync.runtime_SemacquireWaitGroup"], unfollowed := true, recurses := true, named := ["baudot/meter.checks"], plainKeys := false, leaving := true, apart := false, laid := [("baudot/meter.checks", laid_baudot_meter_checks)] }
def MeterAnyOrderSaid : Prop := meterAnyOrderRow.holds Tryz.pinned (OpenSpec.ofChange meterAnyOrderSpec)

/-- ITS FALSE NEIGHBOUR: 'it returns false'. Refute it at one input. -/
def meterAnyOrderWrong : ChangeSpec := { name := "meterAnyOrder", fn := fun _ => fun
  | [d1, d2, d3, d4] => { results := [.lit (.bool false)], args := [d1, d2, d3, d4] }
  | _ => none }
def MeterAnyOrderWrongFalsely : Prop := meterAnyOrderRow.holds Tryz.pinned (OpenSpec.ofChange meterAnyOrderWrong)

/-- 'baudotlaw07.MeterReadings': WHATEVER THE INPUT: true; the input reads as it did. -/
def meterReadingsSpec : ChangeSpec := { name := "meterReadings", fn := fun _ => fun
  | [d1, d2, d3, d4] => { results := [.lit (.bool true)], args := [d1, d2, d3, d4] }
  | _ => none }
def meterReadingsRow : OpenClaim := { program := "ytokgkggocgpcfaagreatdoor", sum := "c2747580ce55b9e5ecd4b543e02e6e762096b562dd722bf58d212e3cef469d65", func := "baudot/baudotlaw07.MeterReadings", spec := "meterReadings", inPlace := ["(*sync.WaitGroup).Add", "internal/race.ReleaseMerge", "internal/race.Disable", "internal/race.Enable", "internal/synctest.IsInBubble", "internal/synctest.Associate[sync.WaitGroup]", "sync.fatal", "sync/atomic.OrUint64", "sync/atomic.AddUint64", "internal/race.Read", "sync/atomic.LoadUint64", "sync/atomic.StoreUint64", "internal/synctest.Disassociate[sync.WaitGroup]", "sync.runtime_Semrelease", "(*sync.WaitGroup).Done", "(*sync.WaitGroup).Wait", "internal/race.Acquire", "internal/synctest.IsAssociated[sync.WaitGroup]", "sync/atomic.CompareAndSwapUint64", "internal/race.Write", "sync.runtime_SemacquireWaitGroup"], unfollowed := true, recurses := true, named := ["baudot/meter.checks"], plainKeys := false, leaving := true, apart := false, laid := [("baudot/meter.checks", laid_baudot_meter_checks)] }
def MeterReadingsSaid : Prop := meterReadingsRow.holds Tryz.pinned (OpenSpec.ofChange meterReadingsSpec)

/-- ITS FALSE NEIGHBOUR: 'it returns false'. Refute it at one input. -/
def meterReadingsWrong : ChangeSpec := { name := "meterReadings", fn := fun _ => fun
  | [d1, d2, d3, d4] => { results := [.lit (.bool false)], args := [d1, d2, d3, d4] }
  | _ => none }
def MeterReadingsWrongFalsely : Prop := meterReadingsRow.holds Tryz.pinned (OpenSpec.ofChange meterReadingsWrong)

/-- 'baudotlaw07.MeterReal': WHATEVER THE INPUT: true; the input reads as it did. -/
def meterRealSpec : ChangeSpec := { name := "meterReal", fn := fun _ => fun
  | [d1, d2, d3, d4, d5, d6] => { results := [.lit (.bool true)], args := [d1, d2, d3, d4, d5, d6] }
  | _ => none }
def meterRealRow : OpenClaim := { program := "ytokgkggocgpcfaagreatdoor", sum := "c2747580ce55b9e5ecd4b543e02e6e762096b562dd722bf58d212e3cef469d65", func := "baudot/baudotlaw07.MeterReal", spec := "meterReal", inPlace := ["(*sync.WaitGroup).Add", "internal/race.ReleaseMerge", "internal/race.Disable", "internal/race.Enable", "internal/synctest.IsInBubble", "internal/synctest.Associate[sync.WaitGroup]", "sync.fatal", "sync/atomic.OrUint64", "sync/atomic.AddUint64", "internal/race.Read", "sync/atomic.LoadUint64", "sync/atomic.StoreUint64", "internal/synctest.Disassociate[sync.WaitGroup]", "sync.runtime_Semrelease", "(*sync.WaitGroup).Done", "(*sync.WaitGroup).Wait", "internal/race.Acquire", "internal/synctest.IsAssociated[sync.WaitGroup]", "sync/atomic.CompareAndSwapUint64", "internal/race.Write", "sync.runtime_SemacquireWaitGroup"], unfollowed := true, recurses := true, named := ["baudot/meter.checks"], plainKeys := false, leaving := true, apart := false, laid := [("baudot/meter.checks", laid_baudot_meter_checks)] }
def MeterRealSaid : Prop := meterRealRow.holds Tryz.pinned (OpenSpec.ofChange meterRealSpec)

/-- ITS FALSE NEIGHBOUR: 'it returns false'. Refute it at one input. -/
def meterRealWrong : ChangeSpec := { name := "meterReal", fn := fun _ => fun
  | [d1, d2, d3, d4, d5, d6] => { results := [.lit (.bool false)], args := [d1, d2, d3, d4, d5, d6] }
  | _ => none }
def MeterRealWrongFalsely : Prop := meterRealRow.holds Tryz.pinned (OpenSpec.ofChange meterRealWrong)

/-- 'baudotlaw07.MeterShown': WHATEVER THE INPUT: true; the input reads as it did. -/
def meterShownSpec : ChangeSpec := { name := "meterShown", fn := fun _ => fun
  | [d1, d2, d3, d4] => { results := [.lit (.bool true)], args := [d1, d2, d3, d4] }
  | _ => none }
def meterShownRow : OpenClaim := { program := "ytokgkggocgpcfaagreatdoor", sum := "c2747580ce55b9e5ecd4b543e02e6e762096b562dd722bf58d212e3cef469d65", func := "baudot/baudotlaw07.MeterShown", spec := "meterShown", inPlace := ["(*sync.WaitGroup).Add", "internal/race.ReleaseMerge", "internal/race.Disable", "internal/race.Enable", "internal/synctest.IsInBubble", "internal/synctest.Associate[sync.WaitGroup]", "sync.fatal", "sync/atomic.OrUint64", "sync/atomic.AddUint64", "internal/race.Read", "sync/atomic.LoadUint64", "sync/atomic.StoreUint64", "internal/synctest.Disassociate[sync.WaitGroup]", "sync.runtime_Semrelease", "(*sync.WaitGroup).Done", "(*sync.WaitGroup).Wait", "internal/race.Acquire", "internal/synctest.IsAssociated[sync.WaitGroup]", "sync/atomic.CompareAndSwapUint64", "internal/race.Write", "sync.runtime_SemacquireWaitGroup"], unfollowed := true, recurses := true, named := ["baudot/meter.checks"], plainKeys := false, leaving := true, apart := false, laid := [("baudot/meter.checks", laid_baudot_meter_checks)] }
def MeterShownSaid : Prop := meterShownRow.holds Tryz.pinned (OpenSpec.ofChange meterShownSpec)

/-- ITS FALSE NEIGHBOUR: 'it returns false'. Refute it at one input. -/
def meterShownWrong : ChangeSpec := { name := "meterShown", fn := fun _ => fun
  | [d1, d2, d3, d4] => { results := [.lit (.bool false)], args := [d1, d2, d3, d4] }
  | _ => none }
def MeterShownWrongFalsely : Prop := meterShownRow.holds Tryz.pinned (OpenSpec.ofChange meterShownWrong)

/-- 'baudotlaw07.MeterClash': WHATEVER THE INPUT: true; the input reads as it did. -/
def meterClashSpec : ChangeSpec := { name := "meterClash", fn := fun _ => fun
  | [d1, d2, d3] => { results := [.lit (.bool true)], args := [d1, d2, d3] }
  | _ => none }
def meterClashRow : OpenClaim := { program := "ytokgkggocgpcfaagreatdoor", sum := "c2747580ce55b9e5ecd4b543e02e6e762096b562dd722bf58d212e3cef469d65", func := "baudot/baudotlaw07.MeterClash", spec := "meterClash", inPlace := ["(*sync.WaitGroup).Add", "internal/race.ReleaseMerge", "internal/race.Disable", "internal/race.Enable", "internal/synctest.IsInBubble", "internal/synctest.Associate[sync.WaitGroup]", "sync.fatal", "sync/atomic.OrUint64", "sync/atomic.AddUint64", "internal/race.Read", "sync/atomic.LoadUint64", "sync/atomic.StoreUint64", "internal/synctest.Disassociate[sync.WaitGroup]", "sync.runtime_Semrelease", "(*sync.WaitGroup).Done", "(*sync.WaitGroup).Wait", "internal/race.Acquire", "internal/synctest.IsAssociated[sync.WaitGroup]", "sync/atomic.CompareAndSwapUint64", "internal/race.Write", "sync.runtime_SemacquireWaitGroup"], unfollowed := true, recurses := true, named := ["baudot/meter.checks"], plainKeys := false, leaving := true, apart := false, laid := [("baudot/meter.checks", laid_baudot_meter_checks)] }
def MeterClashSaid : Prop := meterClashRow.holds Tryz.pinned (OpenSpec.ofChange meterClashSpec)

/-- ITS FALSE NEIGHBOUR: 'it returns false'. Refute it at one input. -/
def meterClashWrong : ChangeSpec := { name := "meterClash", fn := fun _ => fun
  | [d1, d2, d3] => { results := [.lit (.bool false)], args := [d1, d2, d3] }
  | _ => none }
def MeterClashWrongFalsely : Prop := meterClashRow.holds Tryz.pinned (OpenSpec.ofChange meterClashWrong)

/-- 'baudotlaw07.MeterAsked': WHATEVER THE INPUT: true; the input reads as it did. -/
def meterAskedSpec : ChangeSpec := { name := "meterAsked", fn := fun _ => fun
  | [d1, d2, d3, d4] => { results := [.lit (.bool true)], args := [d1, d2, d3, d4] }
  | _ => none }
def meterAskedRow : OpenClaim := { program := "ytokgkggocgpcfaagreatdoor", sum := "c2747580ce55b9e5ecd4b543e02e6e762096b562dd722bf58d212e3cef469d65", func := "baudot/baudotlaw07.MeterAsked", spec := "meterAsked", inPlace := ["(*sync.WaitGroup).Add", "internal/race.ReleaseMerge", "internal/race.Disable", "internal/race.Enable", "internal/synctest.IsInBubble", "internal/synctest.Associate[sync.WaitGroup]", "sync.fatal", "sync/atomic.OrUint64", "sync/atomic.AddUint64", "internal/race.Read", "sync/atomic.LoadUint64", "sync/atomic.StoreUint64", "internal/synctest.Disassociate[sync.WaitGroup]", "sync.runtime_Semrelease", "(*sync.WaitGroup).Done", "(*sync.WaitGroup).Wait", "internal/race.Acquire", "internal/synctest.IsAssociated[sync.WaitGroup]", "sync/atomic.CompareAndSwapUint64", "internal/race.Write", "sync.runtime_SemacquireWaitGroup"], unfollowed := true, recurses := true, named := ["baudot/meter.checks"], plainKeys := false, leaving := true, apart := false, laid := [("baudot/meter.checks", laid_baudot_meter_checks)] }
def MeterAskedSaid : Prop := meterAskedRow.holds Tryz.pinned (OpenSpec.ofChange meterAskedSpec)

/-- ITS FALSE NEIGHBOUR: 'it returns false'. Refute it at one input. -/
def meterAskedWrong : ChangeSpec := { name := "meterAsked", fn := fun _ => fun
  | [d1, d2, d3, d4] => { results := [.lit (.bool false)], args := [d1, d2, d3, d4] }
  | _ => none }
def MeterAskedWrongFalsely : Prop := meterAskedRow.holds Tryz.pinned (OpenSpec.ofChange meterAskedWrong)

/-- 'baudotlaw07.MeterPrices': WHATEVER THE INPUT: true; the input reads as it did. -/
def meterPricesSpec : ChangeSpec := { name := "meterPrices", fn := fun _ => fun
  | [d1, d2, d3, d4, d5, d6, d7, d8] => { results := [.lit (.bool true)], args := [d1, d2, d3, d4, d5, d6, d7, d8] }
  | _ => none }
def meterPricesRow : OpenClaim := { program := "ytokgkggocgpcfaagreatdoor", sum := "c2747580ce55b9e5ecd4b543e02e6e762096b562dd722bf58d212e3cef469d65", func := "baudot/baudotlaw07.MeterPrices", spec := "meterPrices", inPlace := ["(*sync.WaitGroup).Add", "internal/race.ReleaseMerge", "internal/race.Disable", "internal/race.Enable", "internal/synctest.IsInBubble", "internal/synctest.Associate[sync.WaitGroup]", "sync.fatal", "sync/atomic.OrUint64", "sync/atomic.AddUint64", "internal/race.Read", "sync/atomic.LoadUint64", "sync/atomic.StoreUint64", "internal/synctest.Disassociate[sync.WaitGroup]", "sync.runtime_Semrelease", "(*sync.WaitGroup).Done", "(*sync.WaitGroup).Wait", "internal/race.Acquire", "internal/synctest.IsAssociated[sync.WaitGroup]", "sync/atomic.CompareAndSwapUint64", "internal/race.Write", "sync.runtime_SemacquireWaitGroup"], unfollowed := true, recurses := true, named := ["baudot/meter.checks"], plainKeys := false, leaving := true, apart := false, laid := [("baudot/meter.checks", laid_baudot_meter_checks)] }
def MeterPricesSaid : Prop := meterPricesRow.holds Tryz.pinned (OpenSpec.ofChange meterPricesSpec)

/-- ITS FALSE NEIGHBOUR: 'it returns false'. Refute it at one input. -/
def meterPricesWrong : ChangeSpec := { name := "meterPrices", fn := fun _ => fun
  | [d1, d2, d3, d4, d5, d6, d7, d8] => { results := [.lit (.bool false)], args := [d1, d2, d3, d4, d5, d6, d7, d8] }
  | _ => none }
def MeterPricesWrongFalsely : Prop := meterPricesRow.holds Tryz.pinned (OpenSpec.ofChange meterPricesWrong)

/-- 'baudotlaw07.MeterSeconds': WHATEVER THE INPUT: true; the input reads as it did. -/
def meterSecondsSpec : ChangeSpec := { name := "meterSeconds", fn := fun _ => fun
  | [d1, d2, d3, d4, d5] => { results := [.lit (.bool true)], args := [d1, d2, d3, d4, d5] }
  | _ => none }
def meterSecondsRow : OpenClaim := { program := "ytokgkggocgpcfaagreatdoor", sum := "c2747580ce55b9e5ecd4b543e02e6e762096b562dd722bf58d212e3cef469d65", func := "baudot/baudotlaw07.MeterSeconds", spec := "meterSeconds", inPlace := ["(*sync.WaitGroup).Add", "internal/race.ReleaseMerge", "internal/race.Disable", "internal/race.Enable", "internal/synctest.IsInBubble", "internal/synctest.Associate[sync.WaitGroup]", "sync.fatal", "sync/atomic.OrUint64", "sync/atomic.AddUint64", "internal/race.Read", "sync/atomic.LoadUint64", "sync/atomic.StoreUint64", "internal/synctest.Disassociate[sync.WaitGroup]", "sync.runtime_Semrelease", "(*sync.WaitGroup).Done", "(*sync.WaitGroup).Wait", "internal/race.Acquire", "internal/synctest.IsAssociated[sync.WaitGroup]", "sync/atomic.CompareAndSwapUint64", "internal/race.Write", "sync.runtime_SemacquireWaitGroup"], unfollowed := true, recurses := true, named := ["baudot/meter.checks"], plainKeys := false, leaving := true, apart := false, laid := [("baudot/meter.checks", laid_baudot_meter_checks)] }
def MeterSecondsSaid : Prop := meterSecondsRow.holds Tryz.pinned (OpenSpec.ofChange meterSecondsSpec)

/-- ITS FALSE NEIGHBOUR: 'it returns false'. Refute it at one input. -/
def meterSecondsWrong : ChangeSpec := { name := "meterSeconds", fn := fun _ => fun
  | [d1, d2, d3, d4, d5] => { results := [.lit (.bool false)], args := [d1, d2, d3, d4, d5] }
  | _ => none }
def MeterSecondsWrongFalsely : Prop := meterSecondsRow.holds Tryz.pinned (OpenSpec.ofChange meterSecondsWrong)

/- THE SECOND FORM. 'bulk': how many values and letters a reading holds, each counted each time it is reached (what is shared counts as often as it is met; a slice's spare places count too). A statement '..UptoSaid' is the law's where the arguments, and the package variables that the reading takes, are together of bulk at most 1048576: NARROWER than '..Said'. Prove '..Said' where nothing that the law and all that it calls make is longer than what came in: it says more and counts as full. Else prove '..UptoSaid'. A law counts once. -/
mutual
def uptoBulk {H : Type} : DataW H → Nat
  | .lit (.string bytes) => bytes.length + 1
  | .lit _ => 1
  | .nil => 1
  | .ptr d => uptoBulk d + 1
  | .slice elems spare => uptoBulkAll elems + uptoBulkAll spare + 1
  | .agg parts => uptoBulkAll parts + 1
  | .iface _ d => uptoBulk d + 1
  | .map entries => uptoBulkEntries entries + 1
  | .held _ => 1
def uptoBulkAll {H : Type} : List (DataW H) → Nat
  | [] => 0
  | d :: r => uptoBulk d + uptoBulkAll r
def uptoBulkEntries {H : Type} : List (Lit × DataW H) → Nat
  | [] => 0
  | x :: r => uptoBulkEntry x + uptoBulkEntries r
def uptoBulkEntry {H : Type} : Lit × DataW H → Nat
  | (.string bytes, d) => bytes.length + uptoBulk d + 1
  | (_, d) => uptoBulk d + 1
 end
def uptoSmall : (H : Type) → List (DataW H) → Bool := fun _ ds => decide (uptoBulkAll ds ≤ 1048576)
def OpenSpec.upto (s : _root_.Go.ChangeSpec) : _root_.Go.OpenSpec := { _root_.Go.OpenSpec.ofChange s with cond := some uptoSmall }

/-- 'baudotlaw07.MeterBills', WHERE WHAT IT READS IS OF BULK AT MOST 1048576: true; the input reads as it did. -/
def meterBillsUptoRow : OpenClaim := { program := "ytokgkggocgpcfaagreatdoor", sum := "c2747580ce55b9e5ecd4b543e02e6e762096b562dd722bf58d212e3cef469d65", func := "baudot/baudotlaw07.MeterBills", spec := "meterBills", inPlace := ["(*sync.WaitGroup).Add", "internal/race.ReleaseMerge", "internal/race.Disable", "internal/race.Enable", "internal/synctest.IsInBubble", "internal/synctest.Associate[sync.WaitGroup]", "sync.fatal", "sync/atomic.OrUint64", "sync/atomic.AddUint64", "internal/race.Read", "sync/atomic.LoadUint64", "sync/atomic.StoreUint64", "internal/synctest.Disassociate[sync.WaitGroup]", "sync.runtime_Semrelease", "(*sync.WaitGroup).Done", "(*sync.WaitGroup).Wait", "internal/race.Acquire", "internal/synctest.IsAssociated[sync.WaitGroup]", "sync/atomic.CompareAndSwapUint64", "internal/race.Write", "sync.runtime_SemacquireWaitGroup"], unfollowed := true, recurses := true, named := ["baudot/meter.checks"], plainKeys := false, leaving := true, apart := false, laid := [("baudot/meter.checks", laid_baudot_meter_checks)], narrowed := true }
def MeterBillsUptoSaid : Prop := meterBillsUptoRow.holds Tryz.pinned (OpenSpec.upto meterBillsSpec)

/-- 'baudotlaw07.MeterPhotos', WHERE WHAT IT READS IS OF BULK AT MOST 1048576: true; the input reads as it did. -/
def meterPhotosUptoRow : OpenClaim := { program := "ytokgkggocgpcfaagreatdoor", sum := "c2747580ce55b9e5ecd4b543e02e6e762096b562dd722bf58d212e3cef469d65", func := "baudot/baudotlaw07.MeterPhotos", spec := "meterPhotos", inPlace := ["(*sync.WaitGroup).Add", "internal/race.ReleaseMerge", "internal/race.Disable", "internal/race.Enable", "internal/synctest.IsInBubble", "internal/synctest.Associate[sync.WaitGroup]", "sync.fatal", "sync/atomic.OrUint64", "sync/atomic.AddUint64", "internal/race.Read", "sync/atomic.LoadUint64", "sync/atomic.StoreUint64", "internal/synctest.Disassociate[sync.WaitGroup]", "sync.runtime_Semrelease", "(*sync.WaitGroup).Done", "(*sync.WaitGroup).Wait", "internal/race.Acquire", "internal/synctest.IsAssociated[sync.WaitGroup]", "sync/atomic.CompareAndSwapUint64", "internal/race.Write", "sync.runtime_SemacquireWaitGroup"], unfollowed := true, recurses := true, named := ["baudot/meter.checks"], plainKeys := false, leaving := true, apart := false, laid := [("baudot/meter.checks", laid_baudot_meter_checks)], narrowed := true }
def MeterPhotosUptoSaid : Prop := meterPhotosUptoRow.holds Tryz.pinned (OpenSpec.upto meterPhotosSpec)

/-- 'baudotlaw07.MeterExact', WHERE WHAT IT READS IS OF BULK AT MOST 1048576: true; the input reads as it did. -/
def meterExactUptoRow : OpenClaim := { program := "ytokgkggocgpcfaagreatdoor", sum := "c2747580ce55b9e5ecd4b543e02e6e762096b562dd722bf58d212e3cef469d65", func := "baudot/baudotlaw07.MeterExact", spec := "meterExact", inPlace := ["(*sync.WaitGroup).Add", "internal/race.ReleaseMerge", "internal/race.Disable", "internal/race.Enable", "internal/synctest.IsInBubble", "internal/synctest.Associate[sync.WaitGroup]", "sync.fatal", "sync/atomic.OrUint64", "sync/atomic.AddUint64", "internal/race.Read", "sync/atomic.LoadUint64", "sync/atomic.StoreUint64", "internal/synctest.Disassociate[sync.WaitGroup]", "sync.runtime_Semrelease", "(*sync.WaitGroup).Done", "(*sync.WaitGroup).Wait", "internal/race.Acquire", "internal/synctest.IsAssociated[sync.WaitGroup]", "sync/atomic.CompareAndSwapUint64", "internal/race.Write", "sync.runtime_SemacquireWaitGroup"], unfollowed := true, recurses := true, named := ["baudot/meter.checks"], plainKeys := false, leaving := true, apart := false, laid := [("baudot/meter.checks", laid_baudot_meter_checks)], narrowed := true }
def MeterExactUptoSaid : Prop := meterExactUptoRow.holds Tryz.pinned (OpenSpec.upto meterExactSpec)

/-- 'baudotlaw07.MeterEither', WHERE WHAT IT READS IS OF BULK AT MOST 1048576: true; the input reads as it did. -/
def meterEitherUptoRow : OpenClaim := { program := "ytokgkggocgpcfaagreatdoor", sum := "c2747580ce55b9e5ecd4b543e02e6e762096b562dd722bf58d212e3cef469d65", func := "baudot/baudotlaw07.MeterEither", spec := "meterEither", inPlace := ["(*sync.WaitGroup).Add", "internal/race.ReleaseMerge", "internal/race.Disable", "internal/race.Enable", "internal/synctest.IsInBubble", "internal/synctest.Associate[sync.WaitGroup]", "sync.fatal", "sync/atomic.OrUint64", "sync/atomic.AddUint64", "internal/race.Read", "sync/atomic.LoadUint64", "sync/atomic.StoreUint64", "internal/synctest.Disassociate[sync.WaitGroup]", "sync.runtime_Semrelease", "(*sync.WaitGroup).Done", "(*sync.WaitGroup).Wait", "internal/race.Acquire", "internal/synctest.IsAssociated[sync.WaitGroup]", "sync/atomic.CompareAndSwapUint64", "internal/race.Write", "sync.runtime_SemacquireWaitGroup"], unfollowed := true, recurses := true, named := ["baudot/meter.checks"], plainKeys := false, leaving := true, apart := false, laid := [("baudot/meter.checks", laid_baudot_meter_checks)], narrowed := true }
def MeterEitherUptoSaid : Prop := meterEitherUptoRow.holds Tryz.pinned (OpenSpec.upto meterEitherSpec)

/-- 'baudotlaw07.MeterCheap', WHERE WHAT IT READS IS OF BULK AT MOST 1048576: true; the input reads as it did. -/
def meterCheapUptoRow : OpenClaim := { program := "ytokgkggocgpcfaagreatdoor", sum := "c2747580ce55b9e5ecd4b543e02e6e762096b562dd722bf58d212e3cef469d65", func := "baudot/baudotlaw07.MeterCheap", spec := "meterCheap", inPlace := ["(*sync.WaitGroup).Add", "internal/race.ReleaseMerge", "internal/race.Disable", "internal/race.Enable", "internal/synctest.IsInBubble", "internal/synctest.Associate[sync.WaitGroup]", "sync.fatal", "sync/atomic.OrUint64", "sync/atomic.AddUint64", "internal/race.Read", "sync/atomic.LoadUint64", "sync/atomic.StoreUint64", "internal/synctest.Disassociate[sync.WaitGroup]", "sync.runtime_Semrelease", "(*sync.WaitGroup).Done", "(*sync.WaitGroup).Wait", "internal/race.Acquire", "internal/synctest.IsAssociated[sync.WaitGroup]", "sync/atomic.CompareAndSwapUint64", "internal/race.Write", "sync.runtime_SemacquireWaitGroup"], unfollowed := true, recurses := true, named := ["baudot/meter.checks"], plainKeys := false, leaving := true, apart := false, laid := [("baudot/meter.checks", laid_baudot_meter_checks)], narrowed := true }
def MeterCheapUptoSaid : Prop := meterCheapUptoRow.holds Tryz.pinned (OpenSpec.upto meterCheapSpec)

/-- 'baudotlaw07.MeterNews', WHERE WHAT IT READS IS OF BULK AT MOST 1048576: true; the input reads as it did. -/
def meterNewsUptoRow : OpenClaim := { program := "ytokgkggocgpcfaagreatdoor", sum := "c2747580ce55b9e5ecd4b543e02e6e762096b562dd722bf58d212e3cef469d65", func := "baudot/baudotlaw07.MeterNews", spec := "meterNews", inPlace := ["(*sync.WaitGroup).Add", "internal/race.ReleaseMerge", "internal/race.Disable", "internal/race.Enable", "internal/synctest.IsInBubble", "internal/synctest.Associate[sync.WaitGroup]", "sync.fatal", "sync/atomic.OrUint64", "sync/atomic.AddUint64", "internal/race.Read", "sync/atomic.LoadUint64", "sync/atomic.StoreUint64", "internal/synctest.Disassociate[sync.WaitGroup]", "sync.runtime_Semrelease", "(*sync.WaitGroup).Done", "(*sync.WaitGroup).Wait", "internal/race.Acquire", "internal/synctest.IsAssociated[sync.WaitGroup]", "sync/atomic.CompareAndSwapUint64", "internal/race.Write", "sync.runtime_SemacquireWaitGroup"], unfollowed := true, recurses := true, named := ["baudot/meter.checks"], plainKeys := false, leaving := true, apart := false, laid := [("baudot/meter.checks", laid_baudot_meter_checks)], narrowed := true }
def MeterNewsUptoSaid : Prop := meterNewsUptoRow.holds Tryz.pinned (OpenSpec.upto meterNewsSpec)

/-- 'baudotlaw07.MeterAnyOrder', WHERE WHAT IT READS IS OF BULK AT MOST 1048576: true; the input reads as it did. -/
def meterAnyOrderUptoRow : OpenClaim := { program := "ytokgkggocgpcfaagreatdoor", sum := "c2747580ce55b9e5ecd4b543e02e6e762096b562dd722bf58d212e3cef469d65", func := "baudot/baudotlaw07.MeterAnyOrder", spec := "meterAnyOrder", inPlace := ["(*sync.WaitGroup).Add", "internal/race.ReleaseMerge", "internal/race.Disable", "internal/race.Enable", "internal/synctest.IsInBubble", "internal/synctest.Associate[sync.WaitGroup]", "sync.fatal", "sync/atomic.OrUint64", "sync/atomic.AddUint64", "internal/race.Read", "sync/atomic.LoadUint64", "sync/atomic.StoreUint64", "internal/synctest.Disassociate[sync.WaitGroup]", "sync.runtime_Semrelease", "(*sync.WaitGroup).Done", "(*sync.WaitGroup).Wait", "internal/race.Acquire", "internal/synctest.IsAssociated[sync.WaitGroup]", "sync/atomic.CompareAndSwapUint64", "internal/race.Write", "sync.runtime_SemacquireWaitGroup"], unfollowed := true, recurses := true, named := ["baudot/meter.checks"], plainKeys := false, leaving := true, apart := false, laid := [("baudot/meter.checks", laid_baudot_meter_checks)], narrowed := true }
def MeterAnyOrderUptoSaid : Prop := meterAnyOrderUptoRow.holds Tryz.pinned (OpenSpec.upto meterAnyOrderSpec)

/-- 'baudotlaw07.MeterReadings', WHERE WHAT IT READS IS OF BULK AT MOST 1048576: true; the input reads as it did. -/
def meterReadingsUptoRow : OpenClaim := { program := "ytokgkggocgpcfaagreatdoor", sum := "c2747580ce55b9e5ecd4b543e02e6e762096b562dd722bf58d212e3cef469d65", func := "baudot/baudotlaw07.MeterReadings", spec := "meterReadings", inPlace := ["(*sync.WaitGroup).Add", "internal/race.ReleaseMerge", "internal/race.Disable", "internal/race.Enable", "internal/synctest.IsInBubble", "internal/synctest.Associate[sync.WaitGroup]", "sync.fatal", "sync/atomic.OrUint64", "sync/atomic.AddUint64", "internal/race.Read", "sync/atomic.LoadUint64", "sync/atomic.StoreUint64", "internal/synctest.Disassociate[sync.WaitGroup]", "sync.runtime_Semrelease", "(*sync.WaitGroup).Done", "(*sync.WaitGroup).Wait", "internal/race.Acquire", "internal/synctest.IsAssociated[sync.WaitGroup]", "sync/atomic.CompareAndSwapUint64", "internal/race.Write", "sync.runtime_SemacquireWaitGroup"], unfollowed := true, recurses := true, named := ["baudot/meter.checks"], plainKeys := false, leaving := true, apart := false, laid := [("baudot/meter.checks", laid_baudot_meter_checks)], narrowed := true }
def MeterReadingsUptoSaid : Prop := meterReadingsUptoRow.holds Tryz.pinned (OpenSpec.upto meterReadingsSpec)

/-- 'baudotlaw07.MeterReal', WHERE WHAT IT READS IS OF BULK AT MOST 1048576: true; the input reads as it did. -/
def meterRealUptoRow : OpenClaim := { program := "ytokgkggocgpcfaagreatdoor", sum := "c2747580ce55b9e5ecd4b543e02e6e762096b562dd722bf58d212e3cef469d65", func := "baudot/baudotlaw07.MeterReal", spec := "meterReal", inPlace := ["(*sync.WaitGroup).Add", "internal/race.ReleaseMerge", "internal/race.Disable", "internal/race.Enable", "internal/synctest.IsInBubble", "internal/synctest.Associate[sync.WaitGroup]", "sync.fatal", "sync/atomic.OrUint64", "sync/atomic.AddUint64", "internal/race.Read", "sync/atomic.LoadUint64", "sync/atomic.StoreUint64", "internal/synctest.Disassociate[sync.WaitGroup]", "sync.runtime_Semrelease", "(*sync.WaitGroup).Done", "(*sync.WaitGroup).Wait", "internal/race.Acquire", "internal/synctest.IsAssociated[sync.WaitGroup]", "sync/atomic.CompareAndSwapUint64", "internal/race.Write", "sync.runtime_SemacquireWaitGroup"], unfollowed := true, recurses := true, named := ["baudot/meter.checks"], plainKeys := false, leaving := true, apart := false, laid := [("baudot/meter.checks", laid_baudot_meter_checks)], narrowed := true }
def MeterRealUptoSaid : Prop := meterRealUptoRow.holds Tryz.pinned (OpenSpec.upto meterRealSpec)

/-- 'baudotlaw07.MeterShown', WHERE WHAT IT READS IS OF BULK AT MOST 1048576: true; the input reads as it did. -/
def meterShownUptoRow : OpenClaim := { program := "ytokgkggocgpcfaagreatdoor", sum := "c2747580ce55b9e5ecd4b543e02e6e762096b562dd722bf58d212e3cef469d65", func := "baudot/baudotlaw07.MeterShown", spec := "meterShown", inPlace := ["(*sync.WaitGroup).Add", "internal/race.ReleaseMerge", "internal/race.Disable", "internal/race.Enable", "internal/synctest.IsInBubble", "internal/synctest.Associate[sync.WaitGroup]", "sync.fatal", "sync/atomic.OrUint64", "sync/atomic.AddUint64", "internal/race.Read", "sync/atomic.LoadUint64", "sync/atomic.StoreUint64", "internal/synctest.Disassociate[sync.WaitGroup]", "sync.runtime_Semrelease", "(*sync.WaitGroup).Done", "(*sync.WaitGroup).Wait", "internal/race.Acquire", "internal/synctest.IsAssociated[sync.WaitGroup]", "sync/atomic.CompareAndSwapUint64", "internal/race.Write", "sync.runtime_SemacquireWaitGroup"], unfollowed := true, recurses := true, named := ["baudot/meter.checks"], plainKeys := false, leaving := true, apart := false, laid := [("baudot/meter.checks", laid_baudot_meter_checks)], narrowed := true }
def MeterShownUptoSaid : Prop := meterShownUptoRow.holds Tryz.pinned (OpenSpec.upto meterShownSpec)

/-- 'baudotlaw07.MeterClash', WHERE WHAT IT READS IS OF BULK AT MOST 1048576: true; the input reads as it did. -/
def meterClashUptoRow : OpenClaim := { program := "ytokgkggocgpcfaagreatdoor", sum := "c2747580ce55b9e5ecd4b543e02e6e762096b562dd722bf58d212e3cef469d65", func := "baudot/baudotlaw07.MeterClash", spec := "meterClash", inPlace := ["(*sync.WaitGroup).Add", "internal/race.ReleaseMerge", "internal/race.Disable", "internal/race.Enable", "internal/synctest.IsInBubble", "internal/synctest.Associate[sync.WaitGroup]", "sync.fatal", "sync/atomic.OrUint64", "sync/atomic.AddUint64", "internal/race.Read", "sync/atomic.LoadUint64", "sync/atomic.StoreUint64", "internal/synctest.Disassociate[sync.WaitGroup]", "sync.runtime_Semrelease", "(*sync.WaitGroup).Done", "(*sync.WaitGroup).Wait", "internal/race.Acquire", "internal/synctest.IsAssociated[sync.WaitGroup]", "sync/atomic.CompareAndSwapUint64", "internal/race.Write", "sync.runtime_SemacquireWaitGroup"], unfollowed := true, recurses := true, named := ["baudot/meter.checks"], plainKeys := false, leaving := true, apart := false, laid := [("baudot/meter.checks", laid_baudot_meter_checks)], narrowed := true }
def MeterClashUptoSaid : Prop := meterClashUptoRow.holds Tryz.pinned (OpenSpec.upto meterClashSpec)

/-- 'baudotlaw07.MeterAsked', WHERE WHAT IT READS IS OF BULK AT MOST 1048576: true; the input reads as it did. -/
def meterAskedUptoRow : OpenClaim := { program := "ytokgkggocgpcfaagreatdoor", sum := "c2747580ce55b9e5ecd4b543e02e6e762096b562dd722bf58d212e3cef469d65", func := "baudot/baudotlaw07.MeterAsked", spec := "meterAsked", inPlace := ["(*sync.WaitGroup).Add", "internal/race.ReleaseMerge", "internal/race.Disable", "internal/race.Enable", "internal/synctest.IsInBubble", "internal/synctest.Associate[sync.WaitGroup]", "sync.fatal", "sync/atomic.OrUint64", "sync/atomic.AddUint64", "internal/race.Read", "sync/atomic.LoadUint64", "sync/atomic.StoreUint64", "internal/synctest.Disassociate[sync.WaitGroup]", "sync.runtime_Semrelease", "(*sync.WaitGroup).Done", "(*sync.WaitGroup).Wait", "internal/race.Acquire", "internal/synctest.IsAssociated[sync.WaitGroup]", "sync/atomic.CompareAndSwapUint64", "internal/race.Write", "sync.runtime_SemacquireWaitGroup"], unfollowed := true, recurses := true, named := ["baudot/meter.checks"], plainKeys := false, leaving := true, apart := false, laid := [("baudot/meter.checks", laid_baudot_meter_checks)], narrowed := true }
def MeterAskedUptoSaid : Prop := meterAskedUptoRow.holds Tryz.pinned (OpenSpec.upto meterAskedSpec)

/-- 'baudotlaw07.MeterPrices', WHERE WHAT IT READS IS OF BULK AT MOST 1048576: true; the input reads as it did. -/
def meterPricesUptoRow : OpenClaim := { program := "ytokgkggocgpcfaagreatdoor", sum := "c2747580ce55b9e5ecd4b543e02e6e762096b562dd722bf58d212e3cef469d65", func := "baudot/baudotlaw07.MeterPrices", spec := "meterPrices", inPlace := ["(*sync.WaitGroup).Add", "internal/race.ReleaseMerge", "internal/race.Disable", "internal/race.Enable", "internal/synctest.IsInBubble", "internal/synctest.Associate[sync.WaitGroup]", "sync.fatal", "sync/atomic.OrUint64", "sync/atomic.AddUint64", "internal/race.Read", "sync/atomic.LoadUint64", "sync/atomic.StoreUint64", "internal/synctest.Disassociate[sync.WaitGroup]", "sync.runtime_Semrelease", "(*sync.WaitGroup).Done", "(*sync.WaitGroup).Wait", "internal/race.Acquire", "internal/synctest.IsAssociated[sync.WaitGroup]", "sync/atomic.CompareAndSwapUint64", "internal/race.Write", "sync.runtime_SemacquireWaitGroup"], unfollowed := true, recurses := true, named := ["baudot/meter.checks"], plainKeys := false, leaving := true, apart := false, laid := [("baudot/meter.checks", laid_baudot_meter_checks)], narrowed := true }
def MeterPricesUptoSaid : Prop := meterPricesUptoRow.holds Tryz.pinned (OpenSpec.upto meterPricesSpec)

/-- 'baudotlaw07.MeterSeconds', WHERE WHAT IT READS IS OF BULK AT MOST 1048576: true; the input reads as it did. -/
def meterSecondsUptoRow : OpenClaim := { program := "ytokgkggocgpcfaagreatdoor", sum := "c2747580ce55b9e5ecd4b543e02e6e762096b562dd722bf58d212e3cef469d65", func := "baudot/baudotlaw07.MeterSeconds", spec := "meterSeconds", inPlace := ["(*sync.WaitGroup).Add", "internal/race.ReleaseMerge", "internal/race.Disable", "internal/race.Enable", "internal/synctest.IsInBubble", "internal/synctest.Associate[sync.WaitGroup]", "sync.fatal", "sync/atomic.OrUint64", "sync/atomic.AddUint64", "internal/race.Read", "sync/atomic.LoadUint64", "sync/atomic.StoreUint64", "internal/synctest.Disassociate[sync.WaitGroup]", "sync.runtime_Semrelease", "(*sync.WaitGroup).Done", "(*sync.WaitGroup).Wait", "internal/race.Acquire", "internal/synctest.IsAssociated[sync.WaitGroup]", "sync/atomic.CompareAndSwapUint64", "internal/race.Write", "sync.runtime_SemacquireWaitGroup"], unfollowed := true, recurses := true, named := ["baudot/meter.checks"], plainKeys := false, leaving := true, apart := false, laid := [("baudot/meter.checks", laid_baudot_meter_checks)], narrowed := true }
def MeterSecondsUptoSaid : Prop := meterSecondsUptoRow.holds Tryz.pinned (OpenSpec.upto meterSecondsSpec)

end Rows
end Go.Proofs.YtokgkggocgpcfaaGreatDoor
