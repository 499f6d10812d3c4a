/- Part; no conditions. -/
import Derived.Test.YtokgkggocgpcfaaGreatDoorCheap16
import Derived.Test.YtokgkggocgpcfaaGreatDoorCheap00
import Derived.Test.YtokgkggocgpcfaaGreatDoorRows
import Derived.KernelRfl
import Derived.Conc.Holds
open Go.Proofs.Tryz renaming prog->tP
open Go.Proofs.Tryz
open Go.Proofs.YtokgkggocgpcfaaGreatDoor
set_option maxRecDepth 100000
set_option maxHeartbeats 4000000
set_option linter.all false
namespace Go.Proofs.Y
def dF{a b:Bool}(h:a=true)(k:b=true):(a&&b)=true:=by rw[h,k];rfl
def afk:(Rows.meterCheapRow.wf (OpenSpec.ofChange Rows.meterCheapSpec))=true:=xD
def afl:(laidOutB tP)=true:=xD
def afm:(mapsRowed tP)=true:=xD
def afn:(f7.params.all (tP.readableRec ·))=true:=xD
def afo:(namedTie tP Rows.meterCheapRow.named Rows.meterCheapSpec.vars)=true:=xD
def afp:((Rows.meterCheapRow.stops==[]))=true:=xD
def afq:((tP.stops==[]))=true:=xD
def afr:((Rows.meterCheapRow.knobs==[]))=true:=xD
def afs:((tP.stopKnobs==[]))=true:=xD
def aft:((Rows.meterCheapRow.inPlace==tP.inPlace 7))=true:=xD
def afu:((Rows.meterCheapRow.unfollowed==tP.unfollowed 7))=true:=xD
def afv:((Rows.meterCheapRow.recurses==tP.recurses 7))=true:=xD
def afw:((Rows.meterCheapRow.named==tP.varsNamed 7))=true:=xD
def afx:((Rows.meterCheapRow.maps==(f7.params.toList++Rows.meterCheapSpec.plain.varTypes tP).any (tP.mapsRec ·)))=true:=xD
def afy:((Rows.meterCheapRow.ifaces==(f7.params.toList++Rows.meterCheapSpec.plain.varTypes tP).any (tP.ifacesRec ·)))=true:=xD
def afz:((Rows.meterCheapRow.mapsOut==tP.mapsAmong f7.resultTypes.toList))=true:=xD
def afA:((Rows.meterCheapRow.loops==(f7.params.toList++Rows.meterCheapSpec.plain.varTypes tP).any (tP.loopsFrom ·)))=true:=xD
def afB:((Rows.meterCheapRow.wideKeys==(f7.params.toList++Rows.meterCheapSpec.plain.varTypes tP++f7.resultTypes.toList).any (tP.wideKeysFrom ·)))=true:=xD
def afC:(Rows.meterCheapSpec.vars.all (tP.varReadable ·))=true:=xD
def afD:(f7.resultTypes.all (λt=>tP.readableRec t&&decide (t<tP.types.size)))=true:=xD
def afE:((Rows.meterCheapRow.ifacesOut==f7.resultTypes.toList.any (tP.ifacesRec ·)))=true:=xD
def afF:((Rows.meterCheapRow.loopsOut==f7.resultTypes.toList.any (tP.loopsFrom ·)))=true:=xD
def afG:((Rows.meterCheapRow.plainKeys==tP.plainKeys))=true:=xD
def afH:(Rows.meterCheapRow.shortTexts.isNone)=true:=xD
def afI:(tP.stopsHeard)=true:=xD
def afJ:(tP.mayEnter)=true:=xD
def afK:((Rows.meterCheapRow.lifted==tP.liftsFinal))=true:=xD
def afL:((tP.make==some Rows.meterCheapRow.make))=true:=xD
def afM:((Rows.meterCheapRow.kinds==(if Rows.meterCheapRow.domain.isEmpty then[]else f7.params.toList.map λt=>match tP.underlying t with|some (.int k)=>some k|_=>none)))=true:=xD
def afN:((Rows.meterCheapRow.pinned==Rows.meterCheapRow.pinnedBy))=true:=xD
def afO:((Rows.meterCheapRow.veiled==(f7.params.toList++Rows.meterCheapSpec.plain.varTypes tP++f7.resultTypes.toList).any (tP.veiledRec ·)))=true:=xD
def afP:(Rows.meterCheapRow.veiledFits tP f7.params.toList (f7.params.toList++Rows.meterCheapSpec.plain.varTypes tP++f7.resultTypes.toList))=true:=xD
def afQ:joinedFacts tP 7 f7 Rows.meterCheapSpec Rows.meterCheapRow=true:=by unfold joinedFacts;exact dF (dF (dF (dF (dF (dF (dF (dF (dF (dF (dF (dF (dF (dF (dF (dF (dF (dF (dF (dF (dF (dF (dF (dF (dF (dF (dF (dF (dF (dF (dF (afk) afl) afm) afn) afo) afp) afq) afr) afs) aft) afu) afv) afw) afx) afy) afz) afA) afB) afC) afD) afE) afF) afG) afH) afI) afJ) afK) afL) afM) afN) afO) afP
end Go.Proofs.Y
