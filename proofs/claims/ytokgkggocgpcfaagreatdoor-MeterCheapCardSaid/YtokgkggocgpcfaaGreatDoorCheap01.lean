/- Part of a proof; no conditions. -/
import Derived.Test.YtokgkggocgpcfaaGreatDoorCheap00
import GoSem.Step
import Derived.StepT
import Derived.Laws.Sem
import Derived.Conc.Beside
import Derived.Conc.Listed
import Derived.DyingOn
open Array renaming getElem?_setIfInBounds->Gx,getElem?_modify->Hy,getElem?_push->Rw,ext_getElem?->gu,mem_append->Aak,mem_map->Abl
open Option renaming map_eq_some_iff->Ht,map_some->Aaw,map_none->Aax
open Go.Builtin renaming ssaWrapNilChk_->Hw,unsafeAdd_->x8,holdsCells->zo,firstCells->Aaa,mayShare->Aat,append_->Aa3,delete_->Aa4,clear_->Abj,lenOf->Ab0,copy_->Ab1,len_->Acf,cap_->Acg,max2->Ach,min2->Aci,max_->Acj,min_->Ack
open Go.Conv renaming complexToComplex->KA,stringToBytes->Aab,stringToRunes->Aac,bytesToString->Aad,runesToString->Aae,unsafePointer->Aaf,floatToFloat->Aaj,intToString->Aau,intToFloat->Aa5,floatToInt->Aa6,intToInt->Ab2,seenAt->Ac7
open Go.Op.Complex renaming corrected->Nv,quotient->bF,product->sW,arith->Aas,conv->Aa2,cmp->Abi
open List renaming mem_cons_of_mem->Rf,mem_singleton->Aag,mem_cons_self->Aah,not_mem_nil->Aav,mem_append->Aa7,mem_cons->Ab3
open Go.Instr renaming makeInterface->U1,keyThatStays->ny,takeDeferred->sU,sliceBounds->Aai,sliceBound->Aam,buildSlice->Aan,findAsking->Aao,entryStore->Aap,typeAssert->Aaq,beginRound->Aar,makeSlice->Aaz,mapUpdate->Aa0,enterLoop->Aa1,sureAddr->Abb,panicnil->Abc,makeFunc->Abd,makeChan->Abe,checkKey->Abf,mapEntry->Abg,endRound->Abh,storeAt->Abp,fieldAt->Abq,indexAt->Abr,sliceAt->Abs,arrayAt->Abt,extract->Abu,makeMap->Abv,findKey->Abw,getLoop->Abx,endLoop->Aby,loadAt->Ab9,lookup->Aca,slice->Acw,alloc->Acx,build->Acy,entry->Acz,panic->Ac0,field->Ac1,index->Ac2,range->Ac3,next->Adi,box->Adp
open Bool renaming false_eq_true->kF,and_eq_true->Aal
open Go.World renaming viewStore->Aay,farStore->Aba,farLoad->Abm,setCell->Abn,freeze->Ab8
open Go renaming Addr->aD,Frame->fR,FuncId->fI,Program->pQ,Question->qS,TypeId->tI,Value->vL,World->wD,backFromNumber->Aa8,tryRecoverLoop->Aa9,markStringish->Abk,behindNumber->Ab4,RuntimeError->Ab5,runtimePanic->Ab6,movedPointer->Ab7,unsupported->Acl,samePointer->Acm,panicString->Acn,boundsPanic->Aco,movedNumber->Acp,followBlind->Acr,reportChain->Acs,underlying->Adb,globalAddr->Adc,storeCells->Ade,BoundsCode->Adf,fieldPlace->Adg,tryRecover->Adh,FloatKind->Ado,MapEntry->Ads,IntKind->Adw,Operand->Adx,Result->Ady,BinOp->Adz
open Go.Op renaming floatArith->Abz,eqGuardIn->Acb,twoPlaces->Acd,complexOp->Ace,intArith->Ac4,stringOp->Ac5,floatCmp->Ac6,intBits->Adj,equalIn->Adk,addrSub->Adl,addrCmp->Adm,addrMod->Adn,intDiv->Adq,intCmp->Adr
open Except renaming bind->Acu,pure->Acv
open Go.GStep renaming after->Ac8,es->Adu,go->Adv
open Go.Frame renaming enter->Ac9,round->Ada
open Go.Sem renaming runT->Adt
open Go.IntKind renaming i64->qi
open Go.Value renaming int->iN
open Go.Obj renaming cells->cL
open Nat renaming le_refl->nR,lt_of_lt_of_le->nL
open Option.some renaming injEq->oI
set_option maxRecDepth 100000
set_option maxHeartbeats 4000000
set_option linter.all false
namespace Go.Tp
variable {w w':wD} {fr:fR} {o:Obj} {x y main:Bool} {N:Nat} {a:aD} {v:vL} {callers:List fR} {p P:pQ} {l:List aD} {g:Goroutine} {it:Item} {k:List Item}
def fin:Obj:=.finalizers #[] none
def isFin:Obj->Bool
 |.finalizers fs none=>fs.isEmpty
 |_=>false
def _root_.Go.Obj.junk:Obj->Prop
 |.loop _|.deferred _|.chan .. =>True
 |_=>False
abbrev dA:=Nat->Option Obj
def dA.ok(j:dA):Prop:=∀n o,j n=some o->o.junk
def noJ:dA:=λ_=>none
theorem dS:noJ.ok:=λ_ _ h=>by cases h
def jB(j:dA)(n:Nat)(o:Obj):Obj:=if isFin o then(j n).getD o else o
def fill(h:Array Obj)(j:dA):Array Obj:=h.mapIdx λn o=>jB j n o
def _root_.Go.World.tp(w:wD)(τ:Nat->qS->Nat)(d:Nat)(j:dA):wD:={w with heap:=fill w.heap j,tape:=τ,drawn:=d}
def _root_.Go.Result.tp{α:Type}(r:Ady α)(τ:Nat->qS->Nat)(d:Nat)(j:dA):Ady α:=
 match r with
 |.ok a w=>.ok a (w.tp τ d j)
 |.halt h w=>.halt h (w.tp τ d j)
def _root_.Go.Result.fails{α:Type}(r:Ady α):Bool:=
 match r with
 |.halt (.stuck _) _=>true
 |_=>false
def Agree(w:wD)(k:Nat)(τ:Nat->qS->Nat)(d:Nat):Prop:=∀j,j<k->τ (d+j)=w.tape (w.drawn+j)
def zk(n:Nat)(o:Obj):jB noJ n o=o:=by unfold jB;split<;>rfl
theorem uY(h:Array Obj):fill h noJ=h:=by
 apply Array.ext
 ·simp[fill]
 intro i c h2;simp[fill,zk]
theorem jP(w:wD):w.tp w.tape w.drawn noJ=w:=by unfold World.tp;rw[uY]
def sV(h:Array Obj)(j:dA)(n:Nat):(fill h j)[n]? =(h[n]?).map (jB j n):=by simp[fill]
def Dc(h:Array Obj)(j:dA):(fill h j).size=h.size:=by simp[fill]
def sZ(h:isFin o=false)(j:dA)(n:Nat):jB j n o=o:=by simp[jB,h]
def Iz(h:isFin o=true):o=fin:=by
 unfold isFin at h
 split at h
 ·rename_i c;simp only[Array.isEmpty_iff]at h;subst h;rfl
 cases h
def tq{j:dA}(hj:j.ok)(n:Nat)(o:Obj):jB j n o=o\/(o=fin/\(jB j n o).junk):=by
 unfold jB
 split
 ·rename_i h
  cases e:j n with
  |none=>exact .inl rfl
  |some x=>exact .inr ⟨Iz h,hj n x e⟩
 exact .inl rfl
@[simp] theorem IB(w:wD)(τ:Nat->qS->Nat)(d:Nat)(j:dA):(w.tp τ d j).tape=τ:=rfl
@[simp] theorem IC(w:wD)(τ:Nat->qS->Nat)(d:Nat)(j:dA):(w.tp τ d j).drawn=d:=rfl
@[simp] theorem afT(w:wD)(τ:Nat->qS->Nat)(d:Nat)(j:dA):(w.tp τ d j).os=w.os:=rfl
@[simp] theorem afU(w:wD)(τ:Nat->qS->Nat)(d:Nat)(j:dA):(w.tp τ d j).output=w.output:=rfl
def jC(w:wD)(τ:Nat->qS->Nat)(d:Nat)(j:dA)(n:Nat):(w.tp τ d j).heap[n]? =(w.heap[n]?).map (jB j n):=sV _ _ _
theorem iw(w:wD)(τ:Nat->qS->Nat)(d:Nat)(j:dA):(w.tp τ d j).heap.size=w.heap.size:=Dc _ _
section
variable (w:wD) (τ:Nat->qS->Nat) (d:Nat) {j:dA} (hj:j.ok)
include hj
def zq{β:Type}(f:Option Obj->β)(i:∀o:Obj,o.junk->f (some o)=f (some fin))(n:Nat):f ((w.tp τ d j).heap[n]?)=f (w.heap[n]?):=by
 rw[jC]
 cases e:w.heap[n]? with
 |none=>rfl
 |some o=>
  rcases tq hj n o with h|⟨c,h2⟩
  ·simp[h]
  subst c;exact i _ h2
theorem jQ(a:aD):(w.tp τ d j).cell? a=w.cell? a:=
 zq w τ d hj (λx=>match x with|some (cL c _ _)=>if a.spot.isSome then none else c[a.off]? |_=>none) (λo h=>by cases o<;>first|rfl|exact h.elim) a.block
def lI(a:aD):(w.tp τ d j).frozen? a=w.frozen? a:=
 zq w τ d hj (λx=>match x with|some (cL _ _ (lo,hi))=>lo<=a.off&&a.off<hi|_=>false) (λo h=>by cases o<;>first|rfl|exact h.elim) a.block
def P9(r:Nat):(w.tp τ d j).shape? r=w.shape? r:=
 zq w τ d hj (λx=>match x with|some (cL c elem _)=>some (elem,c.size)|_=>none) (λo h=>by cases o<;>first|rfl|exact h.elim) r
def IE(a:aD)(s:String):(w.tp τ d j).noCell a s=w.noCell a s:=
 zq w τ d hj (λx=>match x with|some (.pending ..)=>Halt.unsupported (.initOrder a.block)|some (.view ..)=>.unsupported (.unsafePointer "memory read or written as another type")|_=>.stuck s) (λo h=>by cases o<;>first|rfl|exact h.elim) a.block
def IG(n:Nat)(c:Array vL)(t:tI)(z:Nat×Nat):(w.tp τ d j).heap[n]? =some (cL c t z)↔w.heap[n]? =some (cL c t z):=by
 rw[jC]
 cases e:w.heap[n]? with
 |none=>simp
 |some o=>
  rcases tq hj n o with h|⟨f,h2⟩
  ·simp[h]
  subst f;constructor
  ·intro h;simp only[Aaw,oI]at h;rw[h]at h2;exact h2.elim
  intro h;cases h
end
def II(h:Array Obj)(j:dA)(r:Nat)(c:isFin o=false):fill (h.setIfInBounds r o) j=(fill h j).setIfInBounds r o:=by
 apply gu;intro n;rw[sV,Gx,Gx,sV,Dc]
 split
 ·split
  ·simp[sZ c]
  rfl
 rfl
def Qa(h:Array Obj)(j:dA)(c:isFin o=false):fill (h.push o) j=(fill h j).push o:=by
 apply gu;intro n;rw[sV,Rw,Rw,sV,Dc]
 split
 ·simp[sZ c]
 rfl
def IJ(h:Array Obj){j:dA}(hj:j.ok)(b:Nat)(f:Obj->Obj)(hc:∀c t z,∃q s,f (cL c t z)=.cells q t s)(i:∀o:Obj,(∀c t z,o≠.cells c t z)->f o=o):
 fill (h.modify b f) j=(fill h j).modify b f:=by
 apply gu;intro n;rw[sV,Hy,Hy,sV]
 split
 ·cases e:h[n]? with
  |none=>rfl
  |some o=>
   simp only[Aaw,oI];by_cases m:∃c t z,o=.cells c t z
   ·obtain⟨c,t,z,rfl⟩:=m;obtain⟨q,s,r⟩:=hc c t z;rw[r,sZ (by rfl),sZ (by rfl),r]
   rw[i o (λc t z e=>m ⟨c,t,z,e⟩)]
   rcases tq hj n o with u|⟨_,h2⟩
   ·rw[u,i o (λc t z e=>m ⟨c,t,z,e⟩)]
   rw[i _ (λc t z e=>by rw[e]at h2;exact h2.elim)]
 rfl
def IK(p:pQ)(w:wD)(τ:Nat->qS->Nat)(d:Nat){j:dA}(hj:j.ok)(a:aD)(u:tI)(k:aD)(x:Bool):(w.tp τ d j).seen p a u k x=w.seen p a u k x:=by
 unfold World.seen;by_cases hc:∃c t z,w.heap[a.block]? =some (cL c t z)
 ·obtain⟨c,t,z,e⟩:=hc;rw[e,(IG w τ d hj a.block c t z).2 e]
 have f:∀c t z,w.heap[a.block]? ≠some (cL c t z):=λc t z e=>hc ⟨c,t,z,e⟩;have h2:∀c t z,(w.tp τ d j).heap[a.block]? ≠some (cL c t z):=λc t z e=>f c t z ((IG w τ d hj a.block c t z).1 e);generalize (w.tp τ d j).heap[a.block]? =y1 at*;generalize w.heap[a.block]? =y2 at*
 rcases y1 with _|i<;>rcases y2 with _|m<;>(try cases i)<;>(try cases m)<;>first|rfl|exact absurd rfl (f _ _ _)|exact absurd rfl (h2 _ _ _)
def Qb(p:pQ)(w:wD)(τ:Nat->qS->Nat)(d:Nat){j:dA}(hj:j.ok)(a:aD)(u:tI)(k:aD)(x:Bool):(w.tp τ d j).viewLoad p a u k x=w.viewLoad p a u k x:=by unfold World.viewLoad;rw[IK p w τ d hj]
def IL(p:pQ)(w:wD)(τ:Nat->qS->Nat)(d:Nat){j:dA}(hj:j.ok)(a:aD)(x:Bool):(w.tp τ d j).farLoad p a x=w.farLoad p a x:=by
 unfold Abm;rw[jC];have hn:=IE w τ d hj a "load: no such cell"
 cases e:w.heap[a.block]? with
 |none=>simp only[Aax,hn]
 |some o=>
  rcases tq hj a.block o with h|⟨f,h2⟩
  ·simp only[Aaw,h,Qb p w τ d hj,hn]
  subst f;simp only[Aaw]
  cases c:jB j a.block fin<;>rw[c]at h2<;>first|exact h2.elim|(simp only[hn];rfl)
def Qc(w:wD)(τ:Nat->qS->Nat)(d:Nat){j:dA}(hj:j.ok)(a:aD)(v:vL):(w.tp τ d j).setCell a v=(w.setCell a v).tp τ d j:=by unfold Abn World.tp;simp only;rw[IJ _ hj _ _ (λc t z=>⟨_,_,rfl⟩) (λo e=>by cases o<;>first|rfl|exact absurd rfl (e _ _ _))]
def Qd(w:wD)(τ:Nat->qS->Nat)(d:Nat){j:dA}(hj:j.ok)(a:aD)(n:Nat):(w.tp τ d j).freeze a n=(w.freeze a n).tp τ d j:=by
 unfold Ab8
 split
 ·rfl
 unfold World.tp;simp only;rw[IJ _ hj _ _ (λc t z=>⟨_,_,rfl⟩) (λo e=>by cases o<;>first|rfl|exact absurd rfl (e _ _ _))]
def Qe(p:pQ)(w:wD)(τ:Nat->qS->Nat)(d:Nat){j:dA}(hj:j.ok)(a:aD)(u:tI)(k:aD)(v:vL)(x:Bool):
 (w.tp τ d j).viewStore p a u k v x=match w.viewStore p a u k v x with|.ok r=>.ok (r.1.tp τ d j,r.2)|.error e=>.error e:=by
 unfold Aay;rw[IK p w τ d hj];simp only[bind,Acu,pure,Acv]
 split
 ·rfl
 cases h:w.seen p a u k x with
 |error e=>rfl
 |ok r=>
  obtain⟨c,e,fr,first,i,f⟩:=r;simp only
  cases v.bytes? with
  |none=>rfl
  |some bytes=>
   simp only
   split
   ·rfl
   split
   ·rfl
   simp only[World.tp];rw[II _ _ _ (by rfl)]
def Df(p:pQ)(w:wD)(τ:Nat->qS->Nat)(d:Nat){j:dA}(hj:j.ok)(a:aD)(v:vL)(x:Bool):
 (w.tp τ d j).farStore p a v x=match w.farStore p a v x with|.ok r=>.ok (r.1.tp τ d j,r.2)|.error e=>.error e:=by
 unfold Aba;rw[jC];have hn:=IE w τ d hj a "store: no such cell"
 cases e:w.heap[a.block]? with
 |none=>simp only[Aax,hn]
 |some o=>
  rcases tq hj a.block o with h|⟨f,h2⟩
  ·simp only[Aaw,h,hn]
   split
   ·rw[Qe p w τ d hj]
    cases w.viewStore p _ _ a v x<;>rfl
   rfl
  subst f;simp only[Aaw]
  cases c:jB j a.block fin<;>rw[c]at h2<;>first|exact h2.elim|(simp only[hn];rfl)
def _root_.Go.Mark.mild:Mark->Prop
 |.noRoom|.extern _=>True
 |_=>False
def okE(N:Nat)(e:Event):Prop:=((∃m,e.loc=.mark m/\m.mild)\/∀m,e.loc≠.mark m)/\e.loc.low N
theorem okE.mono{c:Nat}{e:Event}(h:okE N e)(f:N<=c):okE c e:=⟨h.1,Loc.low_mono f h.2⟩
def IQ(h:a.block<N):okE N ⟨.cell a,x,y⟩:=⟨.inr yW,h⟩
def xg{r:Nat}(h:r<N):okE N ⟨.obj r,x,y⟩:=⟨.inr yW,h⟩
def Qg:okE N ⟨.output,x,y⟩:=⟨.inr yW,trivial⟩
def Qh{m:Mark}(h:m.mild):okE N ⟨.mark m,x,y⟩:=⟨.inl ⟨m,rfl,h⟩,trivial⟩
def _root_.Go.Result.room{α:Type}(r:Ady α):Nat:=match r with
 |.ok _ w=>w.heap.size
 |.halt _ w=>w.heap.size
def okH:Halt->Prop
 |.panic _=>True
 |.stuck _=>True
 |.unsupported _=>True
 |_=>False
def eY(c:Bool)(o:Oper):Bool:=match o.op with
 |.call {callee:=.builtin b, .. }=>b==.append||b==.cap||b==.clear||b==.copy||b==.delete||b==.len||b==.max||b==.min||b==.recover
 |.makeChan _ (.const (iN qi 0))=>true
 |.makeChan .. =>false
 |.go {callee:=.builtin _, .. } |.defer {callee:=.builtin _, .. }=>false
 |.defer _=>c
 |.ready _|.waits _=>false
 |.select _ b=>b
 |_=>true
def codeOk:Bool->Code->Bool
 |d,.region _ ops _=>ops.all (eY d)
 |d,.seq a b|d,.cond _ a b=>codeOk d a&&codeOk d b
 |d,.rangeFunc _ _ a b=>d&&codeOk false a&&codeOk false b
 |d,.block _ c|d,.loop c|d,.scope c=>codeOk d c
 |_,.goto _=>false
 |_,_=>true
def _root_.Go.Deferred.good(d:Deferred):Prop:=match d.target with
 |.builtin .. |.coroexit _=>False
 |_=>True
def _root_.Go.Obj.started:Obj->Prop
 |.chan cap buf closed _ _ tm=>cap=0/\buf=#[]/\closed=false/\tm=false
 |.loop l=>codeOk false l.assign=true/\codeOk false l.body=true/\∀c,l.pending=some c->codeOk false c=true
 |.deferred (some ds)=>ds=[]
 |_=>True
def Started(w:wD):Prop:=∀(n:Nat) (o:Obj),w.heap[n]? =some o->o.started
def Calm(P:pQ){α:Type}(A:α->Prop):Sem α->Prop
 |.pure a=>A a
 |.load _ _ k=>∀v,Calm P A (k v)
 |.store _ _ _ k=>Calm P A k
 |.new o k=>(o.started/\isFin o=false)/\∀n,Calm P A (k n)
 |.shape _ k=>∀x,Calm P A (k x)
 |.freeze _ _ k=>Calm P A k
 |.frozen _ k=>∀b,Calm P A (k b)
 |.getObj _ k=>(∀o,o.started->Calm P A (k o))/\((∃s,k fin=.halt (.stuck s))\/∀o:Obj,o.junk->k o=k fin)
 |.setObj _ o k=>(o.started/\isFin o=false)/\Calm P A k
 |.choose _ k=>∀n,Calm P A (k n)
 |.sys c k=>c=.env/\∀r,Calm P A (k r)
 |.program k=>Calm P A (k P)
 |.mark m k=>m.mild/\Calm P A k
 |.halt h=>okH h
theorem Calm.mono{α:Type}{A B:α->Prop}(e:∀a,A a->B a){s:Sem α}(h:Calm P A s):Calm P B s:=by
 induction s with
 |pure a=>exact e _ h
 |load m a k ih=>exact λv=>ih v (h v)
 |store m a v k ih=>exact ih h
 |new o k ih=>exact⟨h.1,λn=>ih n (h.2 n)⟩
 |shape r k ih=>exact λv=>ih v (h v)
 |freeze a n k ih=>exact ih h
 |frozen a k ih=>exact λv=>ih v (h v)
 |getObj r k ih=>exact⟨λv f=>ih v (h.1 v f),h.2⟩
 |setObj r o k ih=>exact⟨h.1,ih h.2⟩
 |choose q k ih=>exact λv=>ih v (h v)
 |sys c k ih=>exact⟨h.1,λv=>ih v (h.2 v)⟩
 |program k ih=>exact ih P h
 |mark m k ih=>exact⟨h.1,ih h.2⟩
 |halt x=>exact h
def Calm.bind'{α β:Type}{A:α->Prop}{B:β->Prop}{s:Sem α}{f:α->Sem β}(h:Calm P A s)(i:∀a,A a->Calm P B (f a)):Calm P B (s.bind f):=by
 induction s with
 |pure a=>exact i _ h
 |load m a k ih=>exact λv=>ih v (h v)
 |store m a v k ih=>exact ih h
 |new o k ih=>exact⟨h.1,λn=>ih n (h.2 n)⟩
 |shape r k ih=>exact λv=>ih v (h v)
 |freeze a n k ih=>exact ih h
 |frozen a k ih=>exact λv=>ih v (h v)
 |getObj r k ih=>exact⟨λv u=>ih v (h.1 v u),h.2.imp (λ⟨s,e⟩=>⟨s,by simp only[Sem.bind,e]⟩) (λe o t=>by simp only[e o t])⟩
 |setObj r o k ih=>exact⟨h.1,ih h.2⟩
 |choose q k ih=>exact λv=>ih v (h v)
 |sys c k ih=>exact⟨h.1,λv=>ih v (h.2 v)⟩
 |program k ih=>exact ih P h
 |mark m k ih=>exact⟨h.1,ih h.2⟩
 |halt x=>exact h
def okR{α:Type}(A:α->Prop):Ady α->Prop
 |.ok a w=>A a/\Started w
 |.halt h w=>okH h/\Started w
def IU(w:wD)(a:aD)(s:String):okH (w.noCell a s):=by unfold World.noCell;split<;>exact trivial
def Qi(c:Started w)(a:aD)(v:vL):Started (w.setCell a v):=by
 intro n o h;simp only[Abn,Hy]at h
 split at h
 ·cases hx:w.heap[n]? with
  |none=>rw[hx]at h;cases h
  |some x=>
   rw[hx]at h;simp only[Aaw,oI]at h;have:=c _ _ hx;subst h
   cases x<;>exact this
 exact c _ _ h
def Qj(c:Started w)(a:aD)(n:Nat):Started (w.freeze a n):=by
 unfold Ab8
 split
 ·exact c
 intro m o h;simp only[Hy]at h
 split at h
 ·cases hx:w.heap[m]? with
  |none=>rw[hx]at h;cases h
  |some x=>
   rw[hx]at h;simp only[Aaw,oI]at h;have:=c _ _ hx;subst h
   cases x<;>exact this
 exact c _ _ h
def Qk(e:Started w)(c:o.started):Started {w with heap:=w.heap.push o}:=by
 intro n x h;rw[Rw]at h
 split at h
 ·cases h;exact c
 exact e _ _ h
def IV(e:Started w)(r:Nat)(c:o.started):Started {w with heap:=w.heap.setIfInBounds r o}:=by
 intro n x h;rw[Gx]at h
 split at h
 ·split at h
  ·cases h;exact c
  cases h
 exact e _ _ h
def Ql(e:Started w)(h:w.farStore p a v x=.ok (w',l)):Started w':=by
 unfold Aba at h
 split at h
 ·split at h
  ·rename_i r c
   cases h
   unfold Aay at c;simp only[bind,Acu,pure,Acv]at c
   (repeat' split at c)<;>first|(cases c;exact IV e _ trivial)|cases c
  cases h
 cases h
def More(N:Nat)(es c:Array Event):Prop:=∀e∈c,e∈es\/okE N e
def More.refl(N:Nat)(es:Array Event):More N es es:=λ_ h=>.inl h
theorem More.push{es c:Array Event}{x:Event}(hx:okE N x)(h:More N (es.push x) c):More N es c:=λe f=>by
 rcases h e f with h4|h4
 ·rcases Array.mem_push.1 h4 with h5|h5
  ·exact .inl h5
  exact .inr (h5▸hx)
 exact .inr h4
def More.app{es c xs:Array Event}(hx:∀x∈xs,okE N x)(h:More N (es++xs) c):More N es c:=λe f=>by
 rcases h e f with h4|h4
 ·rcases Aak.1 h4 with h5|h5
  ·exact .inl h5
  exact .inr (hx e h5)
 exact .inr h4
def lt_of_some{n:Nat}(h:w.heap[n]? =some o):n<w.heap.size:=(Array.getElem?_eq_some_iff.1 h).1
def lt_of_cell(h:w.cell? a=some v):a.block<w.heap.size:=by
 unfold World.cell? at h
 split at h
 ·rename_i e;exact lt_of_some e
 cases h
def IW{u:tI}{k:aD}{r}(h:w.seen p a u k x=.ok r):a.block<w.heap.size:=by
 unfold World.seen at h;by_cases hc:∃o,w.heap[a.block]? =some o
 ·obtain⟨o,c⟩:=hc;exact lt_of_some c
 have hn:w.heap[a.block]? =none:=by
  cases e:w.heap[a.block]? with
  |none=>rfl
  |some o=>exact absurd ⟨o,e⟩ hc
 exfalso;rw[hn]at h;simp only[bind,Acu]at h
 (repeat' split at h)<;>simp_all
def Qm(h:w.farLoad p a x=.ok (v,l)):∀b∈l,b.block<w.heap.size:=by
 unfold Abm at h
 split at h
 ·split at h
  ·rename_i r c
   cases h
   unfold World.viewLoad at c;simp only[bind,Acu,pure,Acv]at c
   cases f:w.seen p _ _ a x with
   |error e=>rw[f]at c;cases c
   |ok y=>
    have:=IW f;rw[f]at c;simp only at c
    split at c
    ·cases c
     intro b i;obtain⟨z,_,rfl⟩:=List.mem_map.1 i;exact this
    cases c
  cases h
 cases h
def IX(h:w.farStore p a v x=.ok (w',l)):(∀b∈l,b.block<w.heap.size)/\w'.heap.size=w.heap.size:=by
 unfold Aba at h
 split at h
 ·split at h
  ·rename_i r c
   cases h
   unfold Aay at c;simp only[bind,Acu,pure,Acv]at c
   split at c
   ·cases c
   cases f:w.seen p _ _ a x with
   |error e=>rw[f]at c;cases c
   |ok y=>
    have:=IW f;rw[f]at c;simp only at c
    (repeat' split at c)<;>first
     |(cases c;done)
     |(cases c
       refine⟨λb i=>?_,yW⟩;obtain⟨z,_,rfl⟩:=List.mem_map.1 i;exact this)
  cases h
 cases h
def Dh{α:Type}{A:α->Prop}(s:Sem α):∀(w:wD),Calm P A s->Started w->
 ∃k r,(∀τ d j u,j.ok->Agree w k τ d->(j=noJ\/r.fails=false)->∃f,s.runT P (w.tp τ d j) u=(Result.tp r τ (d+k) j,f)/\More r.room u f)/\okR A r/\w.heap.size<=r.room:=by
 induction s with
 |pure a=>exact λw h E=>⟨0,.ok a w,λτ d j u _ _ _=>⟨u,rfl,.refl _ _⟩,⟨h,E⟩,nR _⟩
 |load m a k ih=>
  intro w h E
  cases hc:w.cell? a with
  |some v=>obtain⟨n,r,G,D⟩:=ih v w (h v) E;refine⟨n,r,λτ d j u hj K hx=>?_,D⟩;obtain⟨f,L,M⟩:=G τ d j (u.push ⟨.cell a,false,m==.atomic⟩) hj K hx;exact⟨f,by simp only[Adt,jQ w τ d hj,hc];exact L,M.push (IQ (nL (lt_of_cell hc) D.2))⟩
  |none=>
   cases O:w.farLoad P a (m==.atomic)with
   |ok r0=>obtain⟨v,H⟩:=r0;obtain⟨n,r,G,D⟩:=ih v w (h v) E;refine⟨n,r,λτ d j u hj K hx=>?_,D⟩;obtain⟨f,L,M⟩:=G τ d j (u++H.toArray.map (⟨.cell ·,false,m==.atomic⟩)) hj K hx;refine⟨f,by simp only[Adt,jQ w τ d hj,hc,IL P w τ d hj,O];exact L,M.app λx hx=>?_⟩;obtain⟨y,Z,rfl⟩:=Abl.1 hx;exact⟨.inr yW,nL (Qm O y (by simpa using Z)) D.2⟩
   |error e=>
    refine⟨0,.halt e w,λτ d j u hj _ _=>⟨u,?_,.refl _ _⟩,⟨?_,E⟩,nR _⟩
    ·simp only[Adt,jQ w τ d hj,hc,IL P w τ d hj,O];rfl
    unfold Abm at O
    split at O
    ·split at O<;>cases O;trivial
    cases O;exact IU _ _ _
 |store m a v k ih=>
  intro w h E;by_cases Y:(∃c,v=.agg c)\/∃c,v=.tuple c
  ·refine⟨0,.halt (.stuck "store: not the value of one cell") w,λτ d j u _ _ _=>⟨u,?_,.refl _ _⟩,⟨trivial,E⟩,nR _⟩
   rcases Y with⟨c,rfl⟩|⟨c,rfl⟩<;>rfl
  have F:∀(J:wD) (C:Array Event),(Sem.store m a v k).runT P J C=match J.cell? a with
   |some _=>if J.frozen? a then(.halt (.unsupported (.unsafePointer "a write to bytes that a string shares")) J,C)else k.runT P (J.setCell a v) (C.push ⟨.cell a,true,m==.atomic⟩)
   |none=>match J.farStore P a v (m==.atomic)with
    |.ok (W,H)=>k.runT P W (C++H.toArray.map (⟨.cell ·,true,m==.atomic⟩))
    |.error h=>(.halt h J,C):=by
   intro J C
   cases v<;>first|rfl|exact absurd (.inl ⟨_,rfl⟩) Y|exact absurd (.inr ⟨_,rfl⟩) Y
  cases hc:w.cell? a with
  |some x=>
   by_cases hz:w.frozen? a=true
   ·refine⟨0,.halt (.unsupported (.unsafePointer "a write to bytes that a string shares")) w,λτ d j u hj _ _=>⟨u,?_,.refl _ _⟩,⟨trivial,E⟩,nR _⟩
    rw[F,jQ w τ d hj,hc,lI w τ d hj,hz];rfl
   obtain⟨n,r,G,D⟩:=ih (w.setCell a v) h (Qi E _ _)
   rw[show (w.setCell a v).heap.size=w.heap.size by simp[Abn]]at D;refine⟨n,r,λτ d j u hj K hx=>?_,D⟩;obtain⟨f,L,M⟩:=G τ d j (u.push ⟨.cell a,true,m==.atomic⟩) hj K hx;refine⟨f,?_,M.push (IQ (nL (lt_of_cell hc) D.2))⟩;rw[F,jQ w τ d hj,hc,lI w τ d hj];simp only[hz,kF,if_false,Qc w τ d hj];exact L
  |none=>
   cases O:w.farStore P a v (m==.atomic)with
   |ok r0=>
    obtain⟨W,H⟩:=r0;obtain⟨n,r,G,D⟩:=ih W h (Ql E O);rw[(IX O).2]at D;have V:W.tape=w.tape/\W.drawn=w.drawn:=by have:=Df P w w.tape w.drawn dS a v (m==.atomic);rw[jP,O]at this;simp only[Except.ok.injEq,Prod.mk.injEq]at this;rw[this.1];exact⟨rfl,rfl⟩
    refine⟨n,r,λτ d j u hj K hx=>?_,D⟩;obtain⟨f,L,M⟩:=G τ d j (u++H.toArray.map (⟨.cell ·,true,m==.atomic⟩)) hj (λi X=>by rw[V.1,V.2];exact K i X) hx;refine⟨f,?_,M.app λx hx=>?_⟩
    ·rw[F,jQ w τ d hj,hc,Df P w τ d hj,O]
     exact L
    obtain⟨y,Z,rfl⟩:=Abl.1 hx
    exact⟨.inr yW,nL ((IX O).1 y (by simpa using Z)) D.2⟩
   |error e=>
    refine⟨0,.halt e w,λτ d j u hj _ _=>⟨u,?_,.refl _ _⟩,⟨?_,E⟩,nR _⟩
    ·rw[F,jQ w τ d hj,hc,Df P w τ d hj,O];rfl
    unfold Aba at O
    split at O
    ·split at O<;>cases O;trivial
    cases O;exact IU _ _ _
 |new o k ih=>
  intro w h E;obtain⟨n,r,G,D⟩:=ih w.heap.size {w with heap:=w.heap.push o} (h.2 _) (Qk E h.1.1);refine⟨n,r,λτ d j u hj K hx=>?_,D.1,Nat.le_trans yW D.2⟩;obtain⟨f,L,M⟩:=G τ d j u hj K hx;refine⟨f,?_,M⟩;simp only[Adt,iw];have e:({w with heap:=w.heap.push o}:wD).tp τ d j={w.tp τ d j with heap:=(w.tp τ d j).heap.push o}:=by unfold World.tp;simp only;rw[Qa _ _ h.1.2]
  rw[<-e];exact L
 |shape x k ih=>intro w h E;obtain⟨n,r,G,D⟩:=ih (w.shape? x) w (h _) E;refine⟨n,r,λτ d j u hj K hx=>?_,D⟩;obtain⟨f,L,M⟩:=G τ d j u hj K hx;exact⟨f,by simp only[Adt,P9 w τ d hj];exact L,M⟩
 |freeze a n k ih=>
  intro w h E;obtain⟨m,r,G,D⟩:=ih (w.freeze a n) h (Qj E _ _);rw[show (w.freeze a n).heap.size=w.heap.size by unfold Ab8;split<;>simp]at D;have V:(w.freeze a n).tape=w.tape/\(w.freeze a n).drawn=w.drawn:=by unfold Ab8;split<;>exact⟨rfl,rfl⟩
  refine⟨m,r,λτ d j u hj K hx=>?_,D⟩;obtain⟨f,L,M⟩:=G τ d j u hj (λi X=>by rw[V.1,V.2];exact K i X) hx;exact⟨f,by simp only[Adt,Qd w τ d hj];exact L,M⟩
 |frozen a k ih=>intro w h E;obtain⟨n,r,G,D⟩:=ih (w.frozen? a) w (h _) E;refine⟨n,r,λτ d j u hj K hx=>?_,D⟩;obtain⟨f,L,M⟩:=G τ d j u hj K hx;exact⟨f,by simp only[Adt,lI w τ d hj];exact L,M⟩
 |getObj x k ih=>
  intro w h E;have F:∀(J:wD) (C:Array Event),(Sem.getObj x k).runT P J C=match J.heap[x]? with
   |some (cL ..)=>(.halt (.stuck "getObj: a row of cells") J,C)
   |some o=>(k o).runT P J (C.push ⟨.obj x,false,o.isChan⟩)
   |none=>(.halt (.stuck "getObj: no such block") J,C):=by
   intro J C;rw[Adt]
   cases J.heap[x]? with
   |none=>rfl
   |some o=>cases o<;>rfl
  cases Q:w.heap[x]? with
  |none=>exact⟨0,.halt (.stuck "getObj: no such block") w,λτ d j u _ _ _=>⟨u,by rw[F,jC,Q];rfl,.refl _ _⟩,⟨trivial,E⟩,nR _⟩
  |some o=>
   by_cases hc:∃c t z,o=.cells c t z
   ·obtain⟨c,t,z,rfl⟩:=hc
    exact⟨0,.halt (.stuck "getObj: a row of cells") w,λτ d j u _ _ _=>⟨u,by rw[F,jC,Q];simp only[Aaw,sZ (show isFin (cL c t z)=false from rfl)];rfl,.refl _ _⟩,⟨trivial,E⟩,nR _⟩
   have U:∀(R:Obj) (J:wD) (C:Array Event),(∀c t z,R≠.cells c t z)->J.heap[x]? =some R->(Sem.getObj x k).runT P J C=(k R).runT P J (C.push ⟨.obj x,false,R.isChan⟩):=by
    intro R J C G h2;rw[F,h2]
    cases R<;>first|rfl|exact absurd rfl (G _ _ _)
   by_cases T:isFin o=true
   ·obtain rfl:=Iz T
    rcases h.2 with⟨s,e⟩|e
    ·refine⟨0,.halt (.stuck s) w,λτ d j u hj _ hx=>?_,⟨trivial,E⟩,nR _⟩
     rcases hx with rfl|hx
     ·refine⟨u.push ⟨.obj x,false,false⟩,?_,More.push (xg (lt_of_some Q)) (More.refl _ _)⟩
      rw[U fin _ _ (λc t z e=>by cases e) (by rw[jC,Q];simp[zk]),e];rfl
     cases hx
    obtain⟨n,r,G,D⟩:=ih fin w (h.1 _ (E _ _ Q)) E
    refine⟨n,r,λτ d j u hj K hx=>?_,D⟩
    rcases tq hj x fin with S|⟨_,S⟩
    ·obtain⟨f,L,M⟩:=G τ d j (u.push ⟨.obj x,false,false⟩) hj K hx
     refine⟨f,?_,M.push (xg (nL (lt_of_some Q) D.2))⟩;rw[U fin _ _ (λc t z e=>by cases e) (by rw[jC,Q];simp[S])];exact L
    obtain⟨f,L,M⟩:=G τ d j (u.push ⟨.obj x,false,(jB j x fin).isChan⟩) hj K hx
    refine⟨f,?_,M.push (xg (nL (lt_of_some Q) D.2))⟩;rw[U (jB j x fin) _ _ (λc t z e=>by rw[e]at S;exact S.elim) (by rw[jC,Q];rfl),e _ S];exact L
   obtain⟨n,r,G,D⟩:=ih o w (h.1 _ (E _ _ Q)) E
   refine⟨n,r,λτ d j u hj K hx=>?_,D⟩;obtain⟨f,L,M⟩:=G τ d j (u.push ⟨.obj x,false,o.isChan⟩) hj K hx;refine⟨f,?_,M.push (xg (nL (lt_of_some Q) D.2))⟩;rw[U o _ _ (λc t z e=>hc ⟨c,t,z,e⟩) (by rw[jC,Q];simp[sZ (by simpa using T)])];exact L
 |setObj x o k ih=>
  intro w h E;have F:∀(J:wD) (C:Array Event),(Sem.setObj x o k).runT P J C=match J.heap[x]? with
   |some (cL ..)=>(.halt (.stuck "setObj: a row of cells") J,C)
   |some _=>k.runT P {J with heap:=J.heap.setIfInBounds x o} (C.push ⟨.obj x,true,o.isChan⟩)
   |none=>(.halt (.stuck "setObj: no such block") J,C):=λ_ _=>rfl
  cases Q:w.heap[x]? with
  |none=>exact⟨0,.halt (.stuck "setObj: no such block") w,λτ d j u _ _ _=>⟨u,by rw[F,jC,Q];rfl,.refl _ _⟩,⟨trivial,E⟩,nR _⟩
  |some y=>
   by_cases hc:∃c t z,y=.cells c t z
   ·obtain⟨c,t,z,rfl⟩:=hc
    exact⟨0,.halt (.stuck "setObj: a row of cells") w,λτ d j u _ _ _=>⟨u,by rw[F,jC,Q];simp only[Aaw,sZ (show isFin (cL c t z)=false from rfl)];rfl,.refl _ _⟩,⟨trivial,E⟩,nR _⟩
   have U:∀(R:Obj) (J:wD) (C:Array Event),(∀c t z,R≠.cells c t z)->J.heap[x]? =some R->(Sem.setObj x o k).runT P J C=k.runT P {J with heap:=J.heap.setIfInBounds x o} (C.push ⟨.obj x,true,o.isChan⟩):=by
    intro R J C G h2;rw[F,h2]
    cases R<;>first|rfl|exact absurd rfl (G _ _ _)
   obtain⟨n,r,G,D⟩:=ih {w with heap:=w.heap.setIfInBounds x o} h.2 (IV E _ h.1.1);simp only[Array.size_setIfInBounds]at D;refine⟨n,r,λτ d j u hj K hx=>?_,D⟩;obtain⟨f,L,M⟩:=G τ d j (u.push ⟨.obj x,true,o.isChan⟩) hj K hx;refine⟨f,?_,M.push ?_⟩
   ·have e:({w with heap:=w.heap.setIfInBounds x o}:wD).tp τ d j={w.tp τ d j with heap:=(w.tp τ d j).heap.setIfInBounds x o}:=by
     unfold World.tp;simp only;rw[II _ _ _ h.1.2]
    rw[U (jB j x y) _ _ (λc t z e=>?_) (by rw[jC,Q];rfl),<-e]
    ·exact L
    rcases tq hj x y with S|⟨_,S⟩
    ·exact hc ⟨c,t,z,S▸e⟩
    rw[e]at S;exact S.elim
   exact(xg (nL (lt_of_some Q) D.2))
 |choose q k ih=>
  intro w h E;by_cases O:q.forced=true
  ·obtain⟨n,r,G,D⟩:=ih 0 w (h _) E
   refine⟨n,r,λτ d j u hj K hx=>?_,D⟩;obtain⟨f,L,M⟩:=G τ d j u hj K hx;exact⟨f,by simp only[Adt,O,if_true];exact L,M⟩
  obtain⟨n,r,G,D⟩:=ih (q.cut (w.tape w.drawn q)) {w with drawn:=w.drawn+1} (h _) E
  refine⟨n+1,r,λτ d j u hj K hx=>?_,D⟩;have h0:τ d=w.tape w.drawn:=by have:=K 0 zP;simpa using this
  have h4:Agree {w with drawn:=w.drawn+1} n τ (d+1):=λj hj=>by have:=K (j+1) zP;simp only;rw[show d+1+j=d+(j+1) by omega,show w.drawn+1+j=w.drawn+(j+1) by omega];exact this
  obtain⟨f,L,M⟩:=G τ (d+1) j u hj h4 hx;refine⟨f,?_,M⟩;simp only[Adt,O,kF,if_false,IB,IC,h0];rw[show d+(n+1)=d+1+n by omega];exact L
 |sys c k ih=>intro w h E;obtain rfl:=h.1;obtain⟨n,r,G,D⟩:=ih (.strings w.os.env) w (h.2 _) E;refine⟨n,r,λτ d j u hj K hx=>?_,D⟩;obtain⟨f,L,M⟩:=G τ d j (u.push ⟨.output,true,false⟩) hj K hx;exact⟨f,L,M.push Qg⟩
 |program k ih=>intro w h E;obtain⟨n,r,G,D⟩:=ih P w h E;exact⟨n,r,λτ d j u hj K hx=>G τ d j u hj K hx,D⟩
 |mark m k ih=>intro w h E;obtain⟨n,r,G,D⟩:=ih w h.2 E;refine⟨n,r,λτ d j u hj K hx=>?_,D⟩;obtain⟨f,L,M⟩:=G τ d j (u.push ⟨.mark m,false,true⟩) hj K hx;exact⟨f,L,M.push (Qh h.1)⟩
 |halt x=>exact λw h E=>⟨0,.halt x w,λτ d j u _ _ _=>⟨u,rfl,.refl _ _⟩,⟨h,E⟩,nR _⟩
class IsCalm (P:pQ) {α:Type} (s:Sem α):Prop where
 out:Calm P (λ_=>True) s
abbrev aj(P:pQ){α:Type}(s:Sem α):Prop:=Calm P (λ_=>True) s
section
variable {P:pQ} {α β:Type}
def jD{A:α->Prop}{B:β->Prop}{s:Sem α}{f:α->Sem β}(h:Calm P A s)(c:∀a,A a->Calm P B (f a)):Calm P B (s >>=f):=Calm.bind' h c
theorem aK{B:β->Prop}{s:Sem α}{f:α->Sem β}(h:aj P s)(c:∀a,Calm P B (f a)):Calm P B (s >>=f):=Calm.bind' h λa _=>c a
def fA(P:pQ)(a:α):aj P (pure a:Sem α):=trivial
def Di{s:Sem α}{f:α->β}(h:aj P s):aj P (Functor.map f s):=Calm.bind' h λ_ _=>trivial
def zx(P:pQ):aj P program:=trivial
def IY(P:pQ)(a:aD)(m:Mode):aj P (load a m):=λ_=>trivial
def IZ(P:pQ)(a:aD)(v:vL)(m:Mode):aj P (store a v m):=trivial
def qY(P:pQ)(h:o.started/\isFin o=false):aj P (newObj o):=⟨h,λ_=>trivial⟩
def Qn(P:pQ)(r:Nat):aj P (shape r):=λ_=>trivial
def Qo(P:pQ)(a:aD)(n:Nat):aj P (freeze a n):=trivial
def Qp(P:pQ)(a:aD):aj P (frozen a):=λ_=>trivial
def uZ{B:β->Prop}(r:Nat){f:Obj->Sem β}(h1:∀o,o.started->Calm P B (f o))(h2:(∃s,f fin=.halt (.stuck s))\/∀o:Obj,o.junk->f o=f fin):Calm P B (getObj r >>=f):=⟨h1,h2⟩
def tu(P:pQ)(r:Nat)(h:o.started/\isFin o=false):aj P (setObj r o):=⟨h,trivial⟩
def Qq(P:pQ):aj P (sys .env):=⟨rfl,λ_=>trivial⟩
def Dj(P:pQ)(q:qS):aj P (choose q):=λ_=>trivial
def Qr(P:pQ):aj P (mark .noRoom):=⟨trivial,trivial⟩
def Qs(P:pQ)(f:Nat):aj P (mark (.extern f)):=⟨trivial,trivial⟩
def iR(P:pQ)(B:α->Prop)(s:String):Calm P B (stuck s:Sem α):=trivial
def Qu(P:pQ)(B:α->Prop)(s:String):Calm P B (Acl (.noEntry s):Sem α):=trivial
def Qv(P:pQ)(B:α->Prop)(s:String):Calm P B (Acl (.unsafePointer s):Sem α):=trivial
def Qw(P:pQ)(B:α->Prop)(s:String):Calm P B (Acl (.resourceLimit s):Sem α):=trivial
def Qy(P:pQ)(B:α->Prop):Calm P B (Acl .addressObserved:Sem α):=trivial
def Qz(P:pQ)(B:α->Prop)(s:String):Calm P B (Acl (.extern s):Sem α):=trivial
def I4(P:pQ)(B:α->Prop)(v:vL):Calm P B (goPanic v:Sem α):=trivial
def mF{A:α->Prop}{c:Prop}[Decidable c]{x y:Sem α}(h:c->Calm P A x)(e:¬c->Calm P A y):Calm P A (if c then x else y):=by split<;>simp_all
def Dk{i:Type}(l:List i)(f:i->β->Sem (ForInStep β))(h:∀x b,aj P (f x b)):∀e,aj P (forIn l e f):=by
 induction l with
 |nil=>intro b;exact trivial
 |cons x l ih=>
  intro b;rw[List.forIn_cons];refine aK (h _ _) λs=>?_
  cases s with
  |done c=>exact trivial
  |yield c=>exact ih c
def QA{e:Type}(l:Array e)(f:e->β->Sem (ForInStep β))(h:∀x b,aj P (f x b))(c:β):aj P (forIn l c f):=by rw[<-Array.forIn_toList];exact Dk _ _ h _
def QB(a b c:Nat)(hc:0<c)(f:Nat->β->Sem (ForInStep β))(h:∀x b,aj P (f x b))(e:β):aj P (forIn (⟨a,b,c,hc⟩:Std.Legacy.Range) e f):=by rw[Std.Legacy.Range.forIn_eq_forIn_range'];exact Dk _ _ h _
def QC{c:Type}(l:List c)(f:c->Sem β)(h:∀x,aj P (f x)):aj P (l.mapM f):=by
 induction l with
 |nil=>exact trivial
 |cons x l ih=>rw[List.mapM_cons];exact aK (h _) λ_=>aK ih λ_=>trivial
def Dl{c:Type}(l:Array c)(f:c->Sem β)(h:∀x,aj P (f x)):aj P (l.mapM f):=by rw[Array.mapM_eq_mapM_toList];exact Di (QC _ _ h)
def QD{e:Type}(l:List e)(f:β->e->Sem β)(h:∀x b,aj P (f b x)):∀c,aj P (l.foldlM f c):=by
 induction l with
 |nil=>intro b;exact trivial
 |cons x l ih=>intro b;rw[List.foldlM_cons];exact aK (h _ _) λ_=>ih _
end
def ac(P:pQ){α:Type}{s:Sem α}(h:aj P s:=by
 (repeat' first
  |exact fA _ _
  |exact IsCalm.out
  |(refine uZ _ ?_ ?_;rotate_left;(first|exact .inl ⟨_,rfl⟩|(refine .inr (λo h=>?_);cases o<;>(first|rfl|exact False.elim h)));intro _ _)
  |(refine qY _ ?_)
  |(refine tu _ _ ?_)
  |(refine QA _ _ (λ_ _=>?_) _)
  |(refine Dk _ _ (λ_ _=>?_) _)
  |(refine QB _ _ _ _ _ (λ_ _=>?_) _)
  |(refine Dl _ _ (λ_=>?_))
  |(refine QD _ _ (λ_ _=>?_) _)
  |(refine aK ?_ (λ_=>?_))
  |(refine Di ?_)
  |(refine mF (λ_=>?_) (λ_=>?_))
  |split
  |assumption
  |exact trivial
  |exact⟨trivial,rfl⟩
  |dsimp only)):aj P s:=h
section
variable (P:pQ)
instance i_calm_load (a:aD) (m:Mode):IsCalm P (load a m):=⟨IY P a m⟩
instance i_calm_store (a:aD) (v:vL) (m:Mode):IsCalm P (store a v m):=⟨IZ P a v m⟩
instance i_calm_shape (a:Nat):IsCalm P (shape a):=⟨Qn P a⟩
instance i_calm_freeze (a:aD) (n:Nat):IsCalm P (freeze a n):=⟨Qo P a n⟩
instance i_calm_frozen (a:aD):IsCalm P (frozen a):=⟨Qp P a⟩
instance i_calm_choose (q:qS):IsCalm P (choose q):=⟨Dj P q⟩
instance i_calm_noRoom:IsCalm P (mark .noRoom):=⟨Qr P⟩
instance i_calm_program:IsCalm P (program):=⟨zx P⟩
instance i_calm_env:IsCalm P (sys .env):=⟨Qq P⟩
instance i_calm_stuck {α:Type} (s:String):IsCalm P ((stuck s:Sem α)):=⟨iR P _ s⟩
instance i_calm_noEntry {α:Type} (s:String):IsCalm P ((Acl (.noEntry s):Sem α)):=⟨Qu P _ s⟩
instance i_calm_unsafeP {α:Type} (s:String):IsCalm P ((Acl (.unsafePointer s):Sem α)):=⟨Qv P _ s⟩
instance i_calm_resource {α:Type} (s:String):IsCalm P ((Acl (.resourceLimit s):Sem α)):=⟨Qw P _ s⟩
instance i_calm_observed {α:Type}:IsCalm P ((Acl .addressObserved:Sem α)):=⟨Qy P _⟩
instance i_calm_extern {α:Type} (s:String):IsCalm P ((Acl (.extern s):Sem α)):=⟨Qz P _ s⟩
instance i_calm_goPanic {α:Type} (v:vL):IsCalm P ((goPanic v:Sem α)):=⟨I4 P _ v⟩
def QE(n:Nat):aj P (askRoom n):=by unfold askRoom;exact ac P
instance i_c_askRoom (n:Nat):IsCalm P (askRoom n):=⟨QE P n⟩
def QF(r:Nat):aj P (viewAt r):=by unfold viewAt;exact ac P
instance i_c_viewAt (r:Nat):IsCalm P (viewAt r):=⟨QF P r⟩
def QG(r:Nat):aj P (numberAt r):=by unfold numberAt;exact ac P
instance i_c_numberAt (r:Nat):IsCalm P (numberAt r):=⟨QG P r⟩
def QH(r:Nat):aj P (cellsIn r):=by unfold cellsIn;exact ac P
instance i_c_cellsIn (r:Nat):IsCalm P (cellsIn r):=⟨QH P r⟩
def QI(a:aD)(l:Bool):aj P (asNumber a l):=by unfold asNumber;exact ac P
instance i_c_asNumber (a:aD) (l:Bool):IsCalm P (asNumber a l):=⟨QI P a l⟩
def QJ(a:aD):aj P (Ab4 a):=by unfold Ab4;exact ac P
instance i_c_behindNumber (a:aD):IsCalm P (Ab4 a):=⟨QJ P a⟩
def QK(a:aD):aj P (Aa8 a):=by unfold Aa8;exact ac P
instance i_c_backFromNumber (a:aD):IsCalm P (Aa8 a):=⟨QK P a⟩
def QL(a:aD):aj P (noView a):=by unfold noView;exact ac P
instance i_c_noView (a:aD):IsCalm P (noView a):=⟨QL P a⟩
def QM(a:aD):aj P (Abk a):=by unfold Abk;exact ac P
instance i_c_markStringish (a:aD):IsCalm P (Abk a):=⟨QM P a⟩
def QN(a:aD):aj P (stringish a):=by unfold stringish;exact ac P
instance i_c_stringish (a:aD):IsCalm P (stringish a):=⟨QN P a⟩
def QO(a b:aD):aj P (mayBeOne a b):=by unfold mayBeOne;exact ac P
instance i_c_mayBeOne (a b:aD):IsCalm P (mayBeOne a b):=⟨QO P a b⟩
def QS(a b:aD):aj P (sameAddr a b):=by unfold sameAddr;exact ac P
instance i_c_sameAddr (a b:aD):IsCalm P (sameAddr a b):=⟨QS P a b⟩
def QT(a b:Option aD):aj P (Acm a b):=by unfold Acm;exact ac P
instance i_c_samePointer (a b:Option aD):IsCalm P (Acm a b):=⟨QT P a b⟩
def I5(t:tI):aj P (typeInfo t):=by unfold typeInfo;exact ac P
instance i_c_typeInfo (t:tI):IsCalm P (typeInfo t):=⟨I5 P t⟩
theorem zy(t:tI):aj P (Adb t):=by unfold Adb;exact ac P
instance i_c_underlying (t:tI):IsCalm P (Adb t):=⟨zy P t⟩
def QU(t:String):aj P (cutType t):=by unfold cutType;exact ac P
instance i_c_cutType (t:String):IsCalm P (cutType t):=⟨QU P t⟩
def QV(t:String):aj P (Adc t):=by unfold Adc;exact ac P
instance i_c_globalAddr (t:String):IsCalm P (Adc t):=⟨QV P t⟩
def I7(t:tI):aj P (typeStr t):=by unfold typeStr;exact ac P
instance i_c_typeStr (t:tI):IsCalm P (typeStr t):=⟨I7 P t⟩
def Dn(t:tI):aj P (zeroValue t):=by unfold zeroValue;exact ac P
instance i_c_zeroValue (t:tI):IsCalm P (zeroValue t):=⟨Dn P t⟩
def QW(t:tI):aj P (sizeOf t):=by unfold Go.sizeOf;exact ac P
instance i_c_sizeOf (t:tI):IsCalm P (sizeOf t):=⟨QW P t⟩
def QX(t:tI):aj P (isAgg t):=by unfold isAgg;exact ac P
instance i_c_isAgg (t:tI):IsCalm P (isAgg t):=⟨QX P t⟩
theorem I8(a:aD):∀(n i:Nat) (c:Array vL),aj P (loadCellsFrom a i n c)
 |0,_,_=>trivial
 |n+1,i,c=>by unfold loadCellsFrom;exact aK (IY P _ _) λ_=>I8 a n (i+1) _
def QY(a:aD)(n:Nat):aj P (loadCells a n):=I8 P a n 0 #[]
theorem I9(a:aD):∀(c:List vL) (i:Nat),aj P (Ade a c i)
 |[],_=>trivial
 |v::c,i=>by unfold Ade;exact aK (IZ P _ _ _) λ_=>I9 a c (i+1)
instance i_c_loadCells (a:aD) (n:Nat):IsCalm P (loadCells a n):=⟨QY P a n⟩
instance i_c_storeCells (a:aD) (l:List vL) (i:Nat):IsCalm P (Ade a l i):=⟨I9 P a l i⟩
theorem Dp(t:tI)(a:aD):aj P (loadVar t a):=by unfold loadVar;exact ac P
instance i_c_loadVar (t:tI) (a:aD):IsCalm P (loadVar t a):=⟨Dp P t a⟩
def QZ(t:tI)(a:aD)(v:vL):aj P (storeVar t a v):=by unfold storeVar;exact ac P
instance i_c_storeVar (t:tI) (a:aD) (v:vL):IsCalm P (storeVar t a v):=⟨QZ P t a v⟩
def Q5(t:tI)(a:Array vL):aj P (newRow t a):=by unfold newRow;exact ac P
instance i_c_newRow (t:tI) (a:Array vL):IsCalm P (newRow t a):=⟨Q5 P t a⟩
def Q7(t:tI)(a:vL):aj P (newVar t a):=by unfold newVar;exact ac P
instance i_c_newVar (t:tI) (a:vL):IsCalm P (newVar t a):=⟨Q7 P t a⟩
def Q8(t:tI):aj P (elemOf t):=by unfold elemOf;exact ac P
instance i_c_elemOf (t:tI):IsCalm P (elemOf t):=⟨Q8 P t⟩
def Q9(t:tI)(a:Array vL)(o:Nat):aj P (part t a o):=by unfold part;exact ac P
instance i_c_part (t:tI) (a:Array vL) (o:Nat):IsCalm P (part t a o):=⟨Q9 P t a o⟩
def Rh{α:Type}(m:String):aj P (Acn m:Sem α):=by unfold Acn;exact ac P
def Ja{α:Type}(e:Ab5):aj P (Ab6 e:Sem α):=by unfold Ab6;exact ac P
instance i_c_panicString {α:Type} (m:String):IsCalm P ((Acn m:Sem α)):=⟨Rh P m⟩
instance i_c_runtimePanic {α:Type} (m:Ab5):IsCalm P ((Ab6 m:Sem α)):=⟨Ja P m⟩
def Rj{α:Type}(k:Adw)(x y:Int)(c:Adf):aj P (Aco k x y c:Sem α):=by unfold Aco;exact ac P
instance i_c_boundsPanic {α:Type} (k:Adw) (x y:Int) (c:Adf):IsCalm P ((Aco k x y c:Sem α)):=⟨Rj P k x y c⟩
def Rk(v:vL):aj P (asIntOf v):=by unfold asIntOf;exact ac P
instance i_c_asIntOf (v:vL):IsCalm P (asIntOf v):=⟨Rk P v⟩
def Dq(v:vL):aj P (asInt v):=by unfold asInt;exact ac P
instance i_c_asInt (v:vL):IsCalm P (asInt v):=⟨Dq P v⟩
def Jb(v:vL):aj P (asBool v):=by unfold asBool;exact ac P
instance i_c_asBool (v:vL):IsCalm P (asBool v):=⟨Jb P v⟩
def zA(v:vL):aj P (asString v):=by unfold asString;exact ac P
instance i_c_asString (v:vL):IsCalm P (asString v):=⟨zA P v⟩
def Dt(v:vL):aj P (asAgg v):=by unfold asAgg;exact ac P
instance i_c_asAgg (v:vL):IsCalm P (asAgg v):=⟨Dt P v⟩
theorem Jc(v:vL):aj P (asAddr v):=by unfold asAddr;exact ac P
instance i_c_asAddr (v:vL):IsCalm P (asAddr v):=⟨Jc P v⟩
def Rn(a:aD):aj P (byteOf a):=by unfold byteOf;exact ac P
instance i_c_byteOf (a:aD):IsCalm P (byteOf a):=⟨Rn P a⟩
def Ro(a:aD)(n m:Nat):aj P (partAt a n m):=by unfold partAt;exact ac P
instance i_c_partAt (a:aD) (n m:Nat):IsCalm P (partAt a n m):=⟨Ro P a n m⟩
def Rq(a:aD)(f:Field):aj P (Adg a f):=by unfold Adg;exact ac P
instance i_c_fieldPlace (a:aD) (f:Field):IsCalm P (Adg a f):=⟨Rq P a f⟩
def Rt(v:vL):aj P (Abb v):=by unfold Abb;exact ac P
instance i_c_Instr_sureAddr (v:vL):IsCalm P (Abb v):=⟨Rt P v⟩
def Ru(t:tI)(v:vL):aj P (Ab9 t v):=by unfold Ab9;exact ac P
instance i_c_Instr_loadAt (t:tI) (v:vL):IsCalm P (Ab9 t v):=⟨Ru P t v⟩
def Rx(t:tI)(v x:vL):aj P (Abp t v x):=by unfold Abp;exact ac P
instance i_c_Instr_storeAt (t:tI) (v x:vL):IsCalm P (Abp t v x):=⟨Rx P t v x⟩
def Ry(t:tI)(v:vL)(x:Nat):aj P (Abq t v x):=by unfold Abq;exact ac P
instance i_c_Instr_fieldAt (t:tI) (v:vL) (x:Nat):IsCalm P (Abq t v x):=⟨Ry P t v x⟩
def Rz(t:tI)(v x:vL):aj P (Abr t v x):=by unfold Abr;exact ac P
instance i_c_Instr_indexAt (t:tI) (v x:vL):IsCalm P (Abr t v x):=⟨Rz P t v x⟩
def RD(x:vL)(y:Nat)(c:Adf):aj P (Aam x y c):=by unfold Aam;exact ac P
instance i_c_Instr_sliceBound (x:vL) (y:Nat) (c:Adf):IsCalm P (Aam x y c):=⟨RD P x y c⟩
def RF(s:Bool)(l c:Nat)(x y z:Option vL):aj P (Aai s l c x y z):=by unfold Aai;exact ac P
instance i_c_Instr_sliceBounds (s:Bool) (l c:Nat) (x y z:Option vL):IsCalm P (Aai s l c x y z):=⟨RF P s l c x y z⟩
def RG(t:tI)(x:vL)(l h m:Option vL):aj P (Acw t x l h m):=by unfold Acw;exact ac P
instance i_c_Instr_slice (t:tI) (x:vL) (l h m:Option vL):IsCalm P (Acw t x l h m):=⟨RG P t x l h m⟩
def RH(t:tI)(x:vL)(l h m:Option vL):aj P (Abs t x l h m):=by unfold Abs;exact ac P
instance i_c_Instr_sliceAt (t:tI) (x:vL) (l h m:Option vL):IsCalm P (Abs t x l h m):=⟨RH P t x l h m⟩
def RI(t:tI)(x:vL):aj P (Abt t x):=by unfold Abt;exact ac P
instance i_c_Instr_arrayAt (t:tI) (x:vL):IsCalm P (Abt t x):=⟨RI P t x⟩
def RJ(t:tI)(b:Bool)(x:vL):aj P (Acx t b x):=by unfold Acx;exact ac P
instance i_c_Instr_alloc (t:tI) (b:Bool) (x:vL):IsCalm P (Acx t b x):=⟨RJ P t b x⟩
def RN(t:tI)(x:vL):aj P (Adp t x):=by unfold Adp;exact ac P
instance i_c_Instr_box (t:tI) (x:vL):IsCalm P (Adp t x):=⟨RN P t x⟩
def RP(t:tI)(x:Array (Nat×vL)):aj P (Acy t x):=by unfold Acy;exact ac P
instance i_c_Instr_build (t:tI) (x:Array (Nat×vL)):IsCalm P (Acy t x):=⟨RP P t x⟩
def RQ(t:tI)(n:Nat)(x:Array (Nat×vL)):aj P (Aan t n x):=by unfold Aan;exact ac P
instance i_c_Instr_buildSlice (t:tI) (n:Nat) (x:Array (Nat×vL)):IsCalm P (Aan t n x):=⟨RQ P t n x⟩
def RS(x:vL):aj P (Acz x):=by unfold Acz;exact ac P
instance i_c_Instr_entry (x:vL):IsCalm P (Acz x):=⟨RS P x⟩
def RU:aj P (Abc):=by unfold Abc;exact ac P
instance i_c_Instr_panicnil:IsCalm P (Abc):=⟨RU P⟩
def RV(x:vL):aj P (Ac0 x):=by unfold Ac0;exact ac P
instance i_c_Instr_panic (x:vL):IsCalm P (Ac0 x):=⟨RV P x⟩
def RX(x:vL)(n:Nat):aj P (Abu x n):=by unfold Abu;exact ac P
instance i_c_Instr_extract (x:vL) (n:Nat):IsCalm P (Abu x n):=⟨RX P x n⟩
def RY(t:tI)(x:vL)(n:Nat):aj P (Ac1 t x n):=by unfold Ac1;exact ac P
instance i_c_Instr_field (t:tI) (x:vL) (n:Nat):IsCalm P (Ac1 t x n):=⟨RY P t x n⟩
def RZ(t:tI)(x y:vL):aj P (Ac2 t x y):=by unfold Ac2;exact ac P
instance i_c_Instr_index (t:tI) (x y:vL):IsCalm P (Ac2 t x y):=⟨RZ P t x y⟩
def Si(o:Adz)(k:Adw)(x y:Int):aj P (Ac4 o k x y):=by unfold Ac4;exact ac P
instance i_c_Op_intArith (o:Adz) (k:Adw) (x y:Int):IsCalm P (Ac4 o k x y):=⟨Si P o k x y⟩
def Sj(o:Adz)(k:Adw)(x y:Int):aj P (Adq o k x y):=by unfold Adq;exact ac P
instance i_c_Op_intDiv (o:Adz) (k:Adw) (x y:Int):IsCalm P (Adq o k x y):=⟨Sj P o k x y⟩
def Sr(o:Adz)(k:Adw)(x y:Int):aj P (Adj o k x y):=by unfold Adj;exact ac P
instance i_c_Op_intBits (o:Adz) (k:Adw) (x y:Int):IsCalm P (Adj o k x y):=⟨Sr P o k x y⟩
def Sv(o:Adz)(x y:Int):aj P (Adr o x y):=by unfold Adr;exact ac P
instance i_c_Op_intCmp (o:Adz) (x y:Int):IsCalm P (Adr o x y):=⟨Sv P o x y⟩
def Sz(o:Adz)(k:Adw)(x:Int)(c:Adw)(y:Int):aj P (Op.shift o k x c y):=by unfold Op.shift;exact ac P
instance i_c_Op_shift (o:Adz) (k:Adw) (x:Int) (k2:Adw) (y:Int):IsCalm P (Op.shift o k x k2 y):=⟨Sz P o k x k2 y⟩
def SB(o:Adz)(x y:ByteArray):aj P (Ac5 o x y):=by unfold Ac5;exact ac P
instance i_c_Op_stringOp (o:Adz) (x y:ByteArray):IsCalm P (Ac5 o x y):=⟨SB P o x y⟩
def SE(o:UnOp)(x:vL):aj P (Op.unary o x):=by unfold Op.unary;exact ac P
instance i_c_Op_unary (o:UnOp) (x:vL):IsCalm P (Op.unary o x):=⟨SE P o x⟩
def SG(o:Adz)(k:Ado)(x y:Nat):aj P (Abz o k x y):=by unfold Abz;exact ac P
instance i_c_Op_floatArith (o:Adz) (k:Ado) (x y:Nat):IsCalm P (Abz o k x y):=⟨SG P o k x y⟩
def SH(o:Adz)(k:Ado)(x y:Nat):aj P (Ac6 o k x y):=by unfold Ac6;exact ac P
instance i_c_Op_floatCmp (o:Adz) (k:Ado) (x y:Nat):IsCalm P (Ac6 o k x y):=⟨SH P o k x y⟩
theorem Jd:∀(d:Nat) (t:tI) (x y:vL),aj P (Adk d t x y)
 |0,_,_,_=>trivial
 |d+1,t,x,y=>by
  have c:=Jd d
  haveI:∀t x y,IsCalm P (Adk d t x y):=λt x y=>⟨c t x y⟩
  clear c;unfold Adk;exact ac P
instance i_equalIn (d:Nat) (t:tI) (x y:vL):IsCalm P (Adk d t x y):=⟨Jd P d t x y⟩
theorem Je:∀(d:Nat) (t:tI) (x y:vL),aj P (Acb d t x y)
 |0,_,_,_=>trivial
 |d+1,t,x,y=>by
  have c:=Je d
  haveI:∀t x y,IsCalm P (Acb d t x y):=λt x y=>⟨c t x y⟩
  clear c;unfold Acb;exact ac P
instance i_eqGuardIn (d:Nat) (t:tI) (x y:vL):IsCalm P (Acb d t x y):=⟨Je P d t x y⟩
def SI(t:tI)(x y:vL):aj P (Op.equal t x y):=by unfold Op.equal;exact ac P
instance i_c_Op_equal (t:tI) (x y:vL):IsCalm P (Op.equal t x y):=⟨SI P t x y⟩
def Jf(o:Adz)(t:tI)(x y:Adx)(a b:vL):aj P (eqGuard o t x y a b):=by unfold eqGuard;exact ac P
instance i_c_eqGuard (o:Adz) (t:tI) (x y:Adx) (a b:vL):IsCalm P (eqGuard o t x y a b):=⟨Jf P o t x y a b⟩
def SK(a b:aD):aj P (Acd a b):=by unfold Acd;exact ac P
instance i_c_Op_twoPlaces (a b:aD):IsCalm P (Acd a b):=⟨SK P a b⟩
def SL(k:Adw)(a b:aD):aj P (Adl k a b):=by unfold Adl;exact ac P
instance i_c_Op_addrSub (k:Adw) (a b:aD):IsCalm P (Adl k a b):=⟨SL P k a b⟩
def SN(o:Adz)(a b:aD):aj P (Adm o a b):=by unfold Adm;exact ac P
instance i_c_Op_addrCmp (o:Adz) (a b:aD):IsCalm P (Adm o a b):=⟨SN P o a b⟩
def SQ(k:Adw)(a:aD)(n:Int):aj P (Adn k a n):=by unfold Adn;exact ac P
instance i_c_Op_addrMod (k:Adw) (a:aD) (n:Int):IsCalm P (Adn k a n):=⟨SQ P k a n⟩
def SS(o:Adz)(k:Ado)(x y:Nat):aj P (Aas o k x y):=by unfold Aas;exact ac P
instance i_c_Op_Complex_arith (o:Adz) (k:Ado) (x y:Nat):IsCalm P (Aas o k x y):=⟨SS P o k x y⟩
end
section
variable (P:pQ)
def SV(t:Array tI)(u:tI)(a:Array vL):aj P (x8 t u a):=by
 obtain⟨l⟩:=a
 rcases l with _|⟨c,_|⟨e,_|⟨f,r⟩⟩⟩
 ·exact trivial
 ·exact trivial
 ·cases c with
  |pointer p=>
   show aj P (asInt e >>=_)
   refine aK IsCalm.out (λ_=>?_);exact ac P
  |_=>exact trivial
 exact trivial
instance i_c_Builtin_unsafeAdd_ (t:Array tI) (u:tI) (a:Array vL):IsCalm P (x8 t u a):=⟨SV P t u a⟩
def SX(k:Ado)(x:Nat)(d:Ado):aj P (Aaj k x d):=by unfold Aaj;exact ac P
instance i_c_Conv_floatToFloat (k:Ado) (x:Nat) (d:Ado):IsCalm P (Aaj k x d):=⟨SX P k x d⟩
def SY(t:tI)(x y:vL):aj P (Acp t x y):=by unfold Acp;exact ac P
instance i_c_movedNumber (t:tI) (x y:vL):IsCalm P (Acp t x y):=⟨SY P t x y⟩
def S9(t:tI)(x y:vL):aj P (Ab7 t x y):=by unfold Ab7;exact ac P
instance i_c_movedPointer (t:tI) (x y:vL):IsCalm P (Ab7 t x y):=⟨S9 P t x y⟩
def Tc(o:Adz)(k:Ado)(x y:Nat):aj P (Abi o k x y):=by unfold Abi;exact ac P
instance i_c_Op_Complex_cmp (o:Adz) (k:Ado) (x y:Nat):IsCalm P (Abi o k x y):=⟨Tc P o k x y⟩
def Td(k:Ado)(x:Nat)(c:Ado):aj P (Aa2 k x c):=by unfold Aa2;exact ac P
instance i_c_Op_Complex_conv (k:Ado) (x:Nat) (k2:Ado):IsCalm P (Aa2 k x k2):=⟨Td P k x k2⟩
def Tf(a b c d:Nat):aj P (sW a b c d):=by unfold sW;exact ac P
instance i_c_Op_Complex_product (a b c d:Nat):IsCalm P (sW a b c d):=⟨Tf P a b c d⟩
def Ti(s a b c d:Nat):aj P (Nv s a b c d):=by unfold Nv;exact ac P
instance i_c_Op_Complex_corrected (s a b c d:Nat):IsCalm P (Nv s a b c d):=⟨Ti P s a b c d⟩
def Tj(a b c d:Nat):aj P (bF a b c d):=by unfold bF;exact ac P
instance i_c_Op_Complex_quotient (a b c d:Nat):IsCalm P (bF a b c d):=⟨Tj P a b c d⟩
def Tm(o:Adz)(k:Ado)(a b c d:Nat):aj P (Ace o k a b c d):=by unfold Ace;exact ac P
instance i_c_Op_complexOp (o:Adz) (k:Ado) (a b c d:Nat):IsCalm P (Ace o k a b c d):=⟨Tm P o k a b c d⟩
def Jg(o:Adz)(t:tI)(x y:vL):aj P (binOp o t x y):=by unfold binOp;exact ac P
instance i_c_binOp (o:Adz) (t:tI) (x y:vL):IsCalm P (binOp o t x y):=⟨Jg P o t x y⟩
def Tn(k:Adw)(x:Int):aj P (Ab2 k x):=by unfold Ab2;exact ac P
instance i_c_Conv_intToInt (k:Adw) (x:Int):IsCalm P (Ab2 k x):=⟨Tn P k x⟩
def Tq(k:Ado)(x:Int):aj P (Aa5 k x):=by unfold Aa5;exact ac P
instance i_c_Conv_intToFloat (k:Ado) (x:Int):IsCalm P (Aa5 k x):=⟨Tq P k x⟩
def Tt(k:Ado)(x:Nat)(d:Adw):aj P (Aa6 k x d):=by unfold Aa6;exact ac P
instance i_c_Conv_floatToInt (k:Ado) (x:Nat) (d:Adw):IsCalm P (Aa6 k x d):=⟨Tt P k x d⟩
def Tv(k:Ado)(x y:Nat)(d:Ado):aj P (KA k x y d):=by unfold KA;exact ac P
instance i_c_Conv_complexToComplex (k:Ado) (x y:Nat) (d:Ado):IsCalm P (KA k x y d):=⟨Tv P k x y d⟩
def Tz(x:Int):aj P (Aau x):=by unfold Aau;exact ac P
instance i_c_Conv_intToString (x:Int):IsCalm P (Aau x):=⟨Tz P x⟩
def TA(t:tI)(x:ByteArray):aj P (Aab t x):=by unfold Aab;exact ac P
instance i_c_Conv_stringToBytes (t:tI) (x:ByteArray):IsCalm P (Aab t x):=⟨TA P t x⟩
def TB(t:tI)(x:ByteArray):aj P (Aac t x):=by unfold Aac;exact ac P
instance i_c_Conv_stringToRunes (t:tI) (x:ByteArray):IsCalm P (Aac t x):=⟨TB P t x⟩
def TD(x:vL):aj P (Aad x):=by unfold Aad;exact ac P
instance i_c_Conv_bytesToString (x:vL):IsCalm P (Aad x):=⟨TD P x⟩
def TF(x:vL):aj P (Aae x):=by unfold Aae;exact ac P
instance i_c_Conv_runesToString (x:vL):IsCalm P (Aae x):=⟨TF P x⟩
def TG(x:aD):aj P (Ac7 x):=by unfold Ac7;exact ac P
instance i_c_Conv_seenAt (x:aD):IsCalm P (Ac7 x):=⟨TG P x⟩
def TI(t u:tI)(x:vL):aj P (Aaf t u x):=by unfold Aaf;exact ac P
instance i_c_Conv_unsafePointer (t u:tI) (x:vL):IsCalm P (Aaf t u x):=⟨TI P t u x⟩
def TJ(t u:tI)(x:vL):aj P (convert t u x):=by unfold Go.convert;exact ac P
instance i_c_convert (t u:tI) (x:vL):IsCalm P (convert t u x):=⟨TJ P t u x⟩
def TK(t:tI)(x:vL):aj P (U1 t x):=by unfold U1;exact ac P
instance i_c_Instr_makeInterface (t:tI) (x:vL):IsCalm P (U1 t x):=⟨TK P t x⟩
def TM(f:Fn)(x y:Array vL):aj P (Abd f x y):=by unfold Abd;exact ac P
instance i_c_Instr_makeFunc (f:Fn) (x y:Array vL):IsCalm P (Abd f x y):=⟨TM P f x y⟩
def TN(t:tI)(x:Option vL):aj P (Abv t x):=by unfold Abv;exact ac P
instance i_c_Instr_makeMap (t:tI) (x:Option vL):IsCalm P (Abv t x):=⟨TN P t x⟩
def TP(t:tI):aj P (Abe t (iN qi 0)):=by
 unfold Abe;have e:asInt (iN qi 0)=pure 0:=rfl;rw[e,pure_bind];refine aK IsCalm.out λu=>?_
 split
 ·refine aK IsCalm.out λi=>?_;refine mF (λ_=>?_) (λ_=>?_)
  ·exact aK IsCalm.out λ_=>aK (qY P ⟨⟨rfl,rfl,rfl,rfl⟩,rfl⟩) λ_=>fA P _
  exact aK (qY P ⟨⟨rfl,rfl,rfl,rfl⟩,rfl⟩) λ_=>fA P _
 exact iR P _ _
instance i_makeChan (t:tI):IsCalm P (Abe t (iN qi 0)):=⟨TP P t⟩
def TQ(t:tI)(x y:vL):aj P (Aaz t x y):=by unfold Aaz;exact ac P
instance i_c_Instr_makeSlice (t:tI) (x y:vL):IsCalm P (Aaz t x y):=⟨TQ P t x y⟩
theorem Jh(e:Bool):∀(d:Nat) (t:tI) (x:vL),aj P (Abf e d t x)
 |0,_,_=>trivial
 |d+1,t,x=>by
  have c:=Jh e d
  haveI:∀t x,IsCalm P (Abf e d t x):=λt x=>⟨c t x⟩
  clear c;unfold Abf;exact ac P
instance i_checkKey (e:Bool) (d:Nat) (t:tI) (x:vL):IsCalm P (Abf e d t x):=⟨Jh P e d t x⟩
theorem Ji(t:tI)(k:vL):∀(c:List Ads) (i:Nat),aj P (Aao t k c i)
 |[],_=>trivial
 |e::c,i=>by
  have f:=Ji t k c
  haveI:∀i,IsCalm P (Aao t k c i):=λi=>⟨f i⟩
  clear f;unfold Aao;exact ac P
instance i_findAsking (t:tI) (k:vL) (es:List Ads) (i:Nat):IsCalm P (Aao t k es i):=⟨Ji P t k es i⟩
def TR(t:tI)(k:vL)(es:List Ads):aj P (Abw t k es):=by unfold Abw;exact ac P
instance i_c_Instr_findKey (t:tI) (k:vL) (es:List Ads):IsCalm P (Abw t k es):=⟨TR P t k es⟩
def TS(t:tI)(x y:vL)(b:Bool):aj P (Aca t x y b):=by unfold Aca;exact ac P
instance i_c_Instr_lookup (t:tI) (x y:vL) (b:Bool):IsCalm P (Aca t x y b):=⟨TS P t x y b⟩
def TT(x y:vL):aj P (ny x y):=by unfold ny;exact ac P
instance i_c_Instr_keyThatStays (x y:vL):IsCalm P (ny x y):=⟨TT P x y⟩
def TU(t:tI)(x y z:vL):aj P (Aa0 t x y z):=by unfold Aa0;exact ac P
instance i_c_Instr_mapUpdate (t:tI) (x y z:vL):IsCalm P (Aa0 t x y z):=⟨TU P t x y z⟩
def TV(t:tI)(x y:vL):aj P (Abg t x y):=by unfold Abg;exact ac P
instance i_c_Instr_mapEntry (t:tI) (x y:vL):IsCalm P (Abg t x y):=⟨TV P t x y⟩
def TW(t:tI)(x y z:vL):aj P (Aap t x y z):=by unfold Aap;exact ac P
instance i_c_Instr_entryStore (t:tI) (x y z:vL):IsCalm P (Aap t x y z):=⟨TW P t x y z⟩
def TY(x:vL)(b:Bool)(t:tI):aj P (Adi x b t):=by unfold Adi;exact ac P
instance i_c_Instr_next (x:vL) (b:Bool) (t:tI):IsCalm P (Adi x b t):=⟨TY P x b t⟩
def Ua(t:tI)(x:vL):aj P (Ac3 t x):=by
 unfold Ac3;refine aK (zy P _) λd=>?_;have k:∀s:Sem Obj,Calm P (λo=>o.started/\isFin o=false) s->aj P (s >>= λit=>newObj it >>= λr=>(pure (Value.pointer (some ⟨r,0,none⟩)):Sem vL)):=
  λs e=>jD e λo c=>aK (qY P c) λ_=>fA P _
 dsimp only
 split
 ·exact k _ ⟨trivial,rfl⟩
 ·exact k _ ⟨trivial,rfl⟩
 ·refine uZ _ (λo _=>?_) (.inl ⟨_,rfl⟩)
  split
  ·exact k _ ⟨trivial,rfl⟩
  exact k _ (iR P _ _)
 exact k _ (iR P _ _)
instance i_c_Instr_range (t:tI) (x:vL):IsCalm P (Ac3 t x):=⟨Ua P t x⟩
def Ub(x:vL)(t u:tI)(b:Bool):aj P (Aaq x t u b):=by unfold Aaq;exact ac P
instance i_c_Instr_typeAssert (x:vL) (t u:tI) (b:Bool):IsCalm P (Aaq x t u b):=⟨Ub P x t u b⟩
def Uc(a:aD)(n:Nat):aj P (zo a n):=by unfold zo;exact ac P
instance i_c_Builtin_holdsCells (a:aD) (n:Nat):IsCalm P (zo a n):=⟨Uc P a n⟩
def Ud(a b c:Nat)(d:Option aD)(x:vL):aj P (Aat a b c d x):=by unfold Aat;exact ac P
instance i_c_Builtin_mayShare (a b c:Nat) (d:Option aD) (x:vL):IsCalm P (Aat a b c d x):=⟨Ud P a b c d x⟩
def Ue(x:vL):aj P (Ab0 x):=by unfold Ab0;exact ac P
instance i_c_Builtin_lenOf (x:vL):IsCalm P (Ab0 x):=⟨Ue P x⟩
def Uf(a b:Nat)(x:vL):aj P (Aaa a b x):=by unfold Aaa;exact ac P
instance i_c_Builtin_firstCells (a b:Nat) (x:vL):IsCalm P (Aaa a b x):=⟨Uf P a b x⟩
def Ug(t:Array tI)(u:tI)(a:Array vL):aj P (Aa3 t u a):=by unfold Aa3;exact ac P
instance i_c_Builtin_append_ (t:Array tI) (u:tI) (a:Array vL):IsCalm P (Aa3 t u a):=⟨Ug P t u a⟩
def Uh(t:Array tI)(u:tI)(a:Array vL):aj P (Abj t u a):=by unfold Abj;exact ac P
instance i_c_Builtin_clear_ (t:Array tI) (u:tI) (a:Array vL):IsCalm P (Abj t u a):=⟨Uh P t u a⟩
def Ui(t:Array tI)(u:tI)(a:Array vL):aj P (Ab1 t u a):=by unfold Ab1;exact ac P
instance i_c_Builtin_copy_ (t:Array tI) (u:tI) (a:Array vL):IsCalm P (Ab1 t u a):=⟨Ui P t u a⟩
def Uj(t:Array tI)(u:tI)(a:Array vL):aj P (Aa4 t u a):=by unfold Aa4;exact ac P
instance i_c_Builtin_delete_ (t:Array tI) (u:tI) (a:Array vL):IsCalm P (Aa4 t u a):=⟨Uj P t u a⟩
def Uk(t:Array tI)(u:tI)(a:Array vL):aj P (Acf t u a):=by unfold Acf;exact ac P
instance i_c_Builtin_len_ (t:Array tI) (u:tI) (a:Array vL):IsCalm P (Acf t u a):=⟨Uk P t u a⟩
def Ul(t:Array tI)(u:tI)(a:Array vL):aj P (Acg t u a):=by unfold Acg;exact ac P
instance i_c_Builtin_cap_ (t:Array tI) (u:tI) (a:Array vL):IsCalm P (Acg t u a):=⟨Ul P t u a⟩
def Um(x y:vL):aj P (Ach x y):=by unfold Ach;exact ac P
instance i_c_Builtin_max2 (x y:vL):IsCalm P (Ach x y):=⟨Um P x y⟩
def Un(x y:vL):aj P (Aci x y):=by unfold Aci;exact ac P
instance i_c_Builtin_min2 (x y:vL):IsCalm P (Aci x y):=⟨Un P x y⟩
def Uo(t:Array tI)(u:tI)(a:Array vL):aj P (Acj t u a):=by unfold Acj;exact ac P
instance i_c_Builtin_max_ (t:Array tI) (u:tI) (a:Array vL):IsCalm P (Acj t u a):=⟨Uo P t u a⟩
def Ur(t:Array tI)(u:tI)(a:Array vL):aj P (Ack t u a):=by unfold Ack;exact ac P
instance i_c_Builtin_min_ (t:Array tI) (u:tI) (a:Array vL):IsCalm P (Ack t u a):=⟨Ur P t u a⟩
end
def lJ:Next->Prop
 |.value _|.skip|.enter .. |.recover=>True
 |.comm _ b _=>b=true
 |.round _ _ _ a b=>codeOk false a=true/\codeOk false b=true
 |.defer d|.spawn d=>d.good
 |_=>False
def jE(P:pQ)(I:fI->Prop)(f:fI):Prop:=(∃c,P.funcs[f]? =some c/\c.body.isSome=true)\/I f
def xk(P:pQ)(I:fI->Prop):Prop:=∀f,jE P I f->∀c,Calm P lJ (callFunc f c)
def vg(P:pQ)(f:fI):Prop:=∃t i m b,P.info? t=some i/\m∈i.methods/\m.func=some (f,b)
def vk:Fn->fI->Prop
 |.func f',f=>f'=f
 |.via _ _ f' _,f=>f'=f
 |_,_=>False
def xq:Target->fI->Prop
 |.fn fn _,f=>vk fn f
 |_,_=>False
section
variable {P:pQ} {I:fI->Prop}
def xu{s:Sem vL}(h:aj P s):Calm P lJ (s >>= λv=>pure (Next.value v)):=aK h λ_=>trivial
def zB{s:Sem Unit}(h:aj P s):Calm P lJ (s >>= λ_=>pure Next.skip):=aK h λ_=>trivial
def Du(t:tI)(p:Place):aj P (p.get t):=by
 cases p with
 |val v=>exact trivial
 |var a=>exact Dp P t a
theorem Dv:∀(l:List FieldStep) (t:tI) (p:Place),aj P (follow l t p)
 |[],_,_=>trivial
 |s::rest,t,x=>by
  have c:=Dv rest
  haveI:∀t p,IsCalm P (follow rest t p):=λt p=>⟨c t p⟩
  haveI:∀t p,IsCalm P (Place.get t p):=λt p=>⟨Du t p⟩
  clear c;unfold follow
  (repeat' first
  |exact fA _ _
  |exact IsCalm.out
  |(refine aK ?_ (λ_=>?_))
  |(refine mF (λ_=>?_) (λ_=>?_))
  |split
  |exact trivial
  |dsimp only)
def Us(t u:tI)(x y z:vL):aj P (Hw #[t] u #[x,y,z]):=by
 unfold Hw
 cases y with
 |string a=>cases z with
  |string b=>
   cases x with
   |pointer p=>
    cases p with
    |some p=>exact trivial
    |none=>
     show aj P (choose (.extern "ssa:wrapnilchk.dereferenced" 2) >>=_)
     refine aK (Dj P _) λk=>?_
     (repeat' first
     |exact fA _ _
     |exact IsCalm.out
     |(refine aK ?_ (λ_=>?_))
     |(refine mF (λ_=>?_) (λ_=>?_))
     |split
     |exact trivial
     |dsimp only)
   |_=>exact trivial
  |_=>exact trivial
 |_=>exact trivial
theorem Jj(t:tI)(x:Place)(b:Bool)(o:Option String):aj P (receiverAt t x b o):=by
 haveI:∀t p,IsCalm P (Place.get t p):=λt p=>⟨Du t p⟩
 haveI:∀t u x y z,IsCalm P (Hw #[t] u #[x,y,z]):=λt u x y z=>⟨Us t u x y z⟩
 unfold receiverAt
 (repeat' first
  |exact fA _ _
  |exact IsCalm.out
  |(refine aK ?_ (λ_=>?_))
  |(refine mF (λ_=>?_) (λ_=>?_))
  |split
  |exact trivial
  |dsimp only)
def Ut(t:tI)(v:vL)(p:Array FieldStep)(b:Bool):aj P (receiverVia t v p b):=by
 unfold receiverVia
 grind [aK,Dv,Jj]
theorem pK{α:Type}(B:α->Prop)(e:Ab5):Calm P B (Ab6 e:Sem α):=by
 unfold Ab6
 (repeat' first
  |exact I4 _ _ _
  |exact IsCalm.out
  |(refine aK ?_ (λ_=>?_))
  |split
  |dsimp only)
def Uu(t:tI):Calm P (λi=>P.info? t=some i) (typeInfo t):=by
 unfold typeInfo
 show Calm P _ (match P.info? t with|some i=>pure i|none=>stuck "no such type")
 cases h:P.info? t with
 |some i=>exact(rfl:some i=some i)
 |none=>exact trivial
theorem Jk:∀(n:Nat) (t:tI) (v:vL) (s:String),Calm P (λr=>vg P r.1) (method n t v s)
 |0,_,_,_=>trivial
 |n+1,t,v,s=>by
  have A:=Jk n;unfold method;refine jD (Uu t) λi q=>?_
  split
  ·rename_i m u;have c:m∈i.methods:=by grind
   refine aK (Dv _ _ _) λx=>?_;dsimp only
   split
   ·refine aK (Du _ _) λy=>?_
    split
    ·grind
    ·grind [pK]
    exact trivial
   rename_i f b e;exact aK (Jj _ _ _ _) λ_=>⟨t,i,m,b,q,c,e⟩
  exact trivial
theorem Jl:∀(l:List FieldStep) (t:tI) (p:Option vL),aj P (Acr l t p)
 |[],_,_=>trivial
 |s::rest,t,x=>by
  have c:=Jl rest
  haveI:∀t p,IsCalm P (Acr rest t p):=λt p=>⟨c t p⟩
  clear c;unfold Acr
  (repeat' first
  |exact fA _ _
  |exact IsCalm.out
  |(refine aK ?_ (λ_=>?_))
  |(refine mF (λ_=>?_) (λ_=>?_))
  |split
  |exact trivial
  |dsimp only)
theorem Jm:∀(n:Nat) (t:tI) (v:vL) (s:String),aj P (nilAhead n t v s)
 |0,_,_,_=>trivial
 |n+1,t,v,s=>by
  have c:=Jm n
  haveI:∀t v s,IsCalm P (nilAhead n t v s):=λt v s=>⟨c t v s⟩
  haveI:∀l t p,IsCalm P (Acr l t p):=λl t p=>⟨Jl l t p⟩
  clear c;unfold nilAhead
  (repeat' first
  |exact fA _ _
  |exact IsCalm.out
  |(refine aK ?_ (λ_=>?_))
  |(refine mF (λ_=>?_) (λ_=>?_))
  |split
  |exact trivial
  |dsimp only)
theorem Jo(c:xk P I)(e:∀f,vg P f->jE P I f)(r:vL)(s:String)(args:Array vL):Calm P lJ (callMethod r s args):=by
 unfold callMethod
 split
 ·refine aK (zx P) λp=>jD (Jk _ _ _ _) λx hx=>?_;exact c _ (e _ hx) _
 ·grind [pK]
 exact trivial
def xw(l:Nat):Calm P (λr:Loop=>codeOk false r.assign=true/\codeOk false r.body=true/\∀c,r.pending=some c->codeOk false c=true) (Abx l):=by
 unfold Abx;refine uZ _ (λo e=>?_) (.inl ⟨_,rfl⟩)
 split
 ·exact e
 exact trivial
theorem Uw(l:Nat)(args:Array vL):Calm P lJ (Instr.yield l args):=by
 unfold Instr.yield;refine jD (xw l) λr c=>?_;dsimp only;refine mF (λ_=>?_) (λ_=>?_)
 ·exact trivial
 exact⟨c.1,c.2.1⟩
def Dw(b:Builtin):Bool:=b==.append||b==.cap||b==.clear||b==.copy||b==.delete||b==.len||b==.max||b==.min||b==.recover
theorem Ux(b:Builtin)(c:Dw b=true)(e:Array tI)(t:tI)(cs:Array Bool)(args:Array vL):Calm P lJ (builtin b e t cs args):=by cases b<;>first|(exact absurd c zE)|(unfold builtin;exact xu IsCalm.out)|exact trivial
def zC(c:xk P I)(m:∀f,vg P f->jE P I f)(t:Target)(i:match t with|.builtin b .. =>Dw b=true|.coroexit _=>False|_=>True)(e:∀f,xq t f->jE P I f)(args:Array vL):Calm P lJ (invoke t args):=by
 unfold invoke
 split
 ·grind [pK]
 ·grind [Ux]
 ·exact c _ (e _ rfl) _
 ·split
  ·grind [Jo]
  exact trivial
 ·split
  ·grind [aK,zy,Jo]
  exact trivial
 ·split
  ·exact aK (Ut _ _ _ _) λ_=>c _ (e _ rfl) _
  exact trivial
 ·grind [Uw]
 ·exact trivial
 exact i.elim
def Uy(f:vL)(args:Array vL):Calm P (λd:Deferred=>d.good/\∀g,xq d.target g->∃e a b,f=.func e a b/\vk e g) (Deferred.ofValue f args):=by
 unfold Deferred.ofValue
 split
 ·exact⟨trivial,λg c=>⟨_,_,_,rfl,c⟩⟩
 ·exact⟨trivial,λg c=>c.elim⟩
 exact trivial
def xA(ρ:Adx->vL)(c:Call)(t:tI):Calm P (λd:Deferred=>(∀g,xq d.target g->∃x m a b,c.callee=.value x/\ρ x=.func m a b/\vk m g)/\match c.callee with|.builtin b=>∃u t s,d.target=.builtin b u t s|_=>d.good) (resolve ρ c t):=by
 unfold resolve
 cases hc:c.callee with
 |builtin b=>exact⟨λg i=>i.elim,_,_,_,rfl⟩
 |invoke r n=>exact⟨λg i=>i.elim,trivial⟩
 |value f=>exact(Uy _ _).mono λd q=>⟨λg i=>by obtain⟨m,a,b,e,h⟩:=q.2 g i;exact⟨f,m,a,b,rfl,e,h⟩,q.1⟩
def Uz{d:Bool}{o:Oper}{t:tI}{x:Adx}(f:o.op=.makeChan t x)(c:eY d o=true):x=.const (iN qi 0):=by
 by_cases e:x=.const (iN qi 0)
 ·exact e
 exfalso;unfold eY at c
 grind
def Jp(ρ:Adx->vL)(o:Oper)(g:fI):Prop:=∃c x e a b,o.op=.call c/\c.callee=.value x/\ρ x=.func e a b/\vk e g
def xB(Q:xk P I)(R:∀f,vg P f->jE P I f)(ρ:Adx->vL)(G:∀v,ρ (.const v)=v)(o:Oper)(T:∀g,Jp ρ o g->jE P I g){df:Bool}(r:eY df o=true):Calm P lJ (execOp ρ o):=by
 have F:=r;unfold eY at r;unfold execOp
 cases q:o.op with
 |ready g=>rw[q]at r;cases r
 |waits g=>rw[q]at r;cases r
 |call c=>
  rw[q]at r;refine jD (xA ρ c o.type) λd A=>?_;obtain⟨E,A⟩:=A;refine zC Q R _ ?_ (λg S=>by obtain⟨x,O,a,b,K,L,M⟩:=E g S;exact T g ⟨c,x,O,a,b,q,K,L,M⟩) _;obtain⟨i,H,D⟩:=c
  cases i with
  |builtin b=>obtain⟨U,t,J,e⟩:=A;rw[e];exact r
  |value f=>
   have C:d.good:=A;unfold Deferred.good at C
   grind
  |invoke f n=>
   have C:d.good:=A;unfold Deferred.good at C
   grind
 |go c=>
  rw[q]at r;refine jD (xA ρ c o.type) λd A=>?_;obtain⟨i,H,D⟩:=c
  cases i with
  |builtin b=>cases r
  |value f=>exact A.2
  |invoke f n=>exact A.2
 |defer c=>
  rw[q]at r;refine jD (xA ρ c o.type) λd A=>?_;obtain⟨i,H,D⟩:=c
  cases i with
  |builtin b=>cases r
  |value f=>exact A.2
  |invoke f n=>exact A.2
 |move x=>exact trivial
 |assign x=>exact trivial
 |pick c a b=>exact aK (Jb P _) λ_=>by split<;>exact trivial
 |nilCheck x=>
  dsimp only
  split
  ·grind [pK]
  ·grind [pK]
  ·grind [pK]
  ·split
   ·grind [pK]
   ·refine aK (zx P) λp=>aK (Jm _ _ _ _) λb=>?_;refine mF (λ_=>?_) (λ_=>?_)<;>exact trivial
   exact trivial
  exact trivial
 |binOp op t x y u=>exact xu (aK (Jf P ..) λ_=>Jg P ..)
 |send ch x=>exact(rfl:true=true)
 |recv t ch ok=>
  refine aK (zy P _) λd=>?_
  split
  ·exact aK (Dn P _) λ_=>(rfl:true=true)
  exact trivial
 |select J b=>rw[q]at r;exact aK (Dl _ _ λs=>aK (Dn P _) λ_=>trivial) λ_=>r
 |store t a x=>exact zB IsCalm.out
 |makeChan t x=>obtain rfl:=Uz q F;refine xu ?_;rw[G];exact IsCalm.out
 |mapUpdate t m k x=>exact zB IsCalm.out
 |insert t m k x=>exact zB IsCalm.out
 |entryStore t m k x=>exact zB IsCalm.out
 |_=>exact xu IsCalm.out
end
section
open Go.Conc (mem_seen)
def _root_.Go.GStep.tp(e:GStep)(τ:Nat->qS->Nat)(d:Nat)(j:dA):GStep:=match e with
 |.go g w es=>.go g (w.tp τ d j) es
 |.comm g cases blocking shape w es=>.comm g cases blocking shape (w.tp τ d j) es
 |.spawn g child w es=>.spawn g child (w.tp τ d j) es
 |.count g w es=>.count g (w.tp τ d j) es
 |.timer g op w es=>.timer g op (w.tp τ d j) es
 |.alone g on w es=>.alone g on (w.tp τ d j) es
 |.newcoro g c x w es=>.newcoro g c x (w.tp τ d j) es
 |.coroswitch g c exit w es=>.coroswitch g c exit (w.tp τ d j) es
 |.collect g w es=>.collect g (w.tp τ d j) es
 |.watch g w es=>.watch g (w.tp τ d j) es
 |.ended o w es=>.ended o (w.tp τ d j) es
def _root_.Go.GStep.isEnd(c:GStep):Bool:=match c with
 |.ended .. =>true
 |_=>false
def _root_.Go.GStep.room(c:GStep):Nat:=match c with
 |.go _ w _|.comm _ _ _ _ w _|.spawn _ _ w _|.count _ w _|.timer _ _ w _|.alone _ _ w _|.newcoro _ _ _ w _|.coroswitch _ _ _ w _|.collect _ w _|.watch _ w _|.ended _ w _=>w.heap.size
def lK(df:Bool):Item->Prop
 |.code c|.inLoop c|.inScope c=>codeOk df c=true
 |.inRegion ops _=>ops.all (eY df)=true
 |.inBlock _|.inRangeFunc _|.endRangeFunc _|.beginRound=>True
 |.call .. |.extern .. =>False
structure bI (fr:fR):Prop where
 items:∀it∈fr.todo,lK fr.roundOf.isNone it
 defers:∀d∈fr.defers,d.good
 kind:fr.kind≠.early
structure jR (g:Goroutine):Prop where
 frame:bI g.frame
 callers:∀f∈g.callers,bI f
def Jq(P:pQ):GStep->Prop
 |.go g w _=>(jR g/\g.dying=none/\(g.status=.running\/g.status=.finished)/\Started w)\/g.dyingOn P
 |.comm g _ b _ w _=>jR g/\g.dying=none/\b=true/\Started w
 |.spawn .. =>True
 |.ended .. =>True
 |_=>False
def Dx(P:pQ):Prop:=∀(f:fI) (e:Func) (c:Code),P.funcs[f]? =some e->e.body=some c->codeOk true c=true
structure Good (P:pQ) (I:fI->Prop):Prop where
 funcs:xk P I
 methods:∀f,vg P f->jE P I f
 bodies:Dx P
 ahead:P.follows .staticDataAhead=true
 noStep:∀g,P.stepOf g=none
 noEnter:∀todo,NoEnter P todo
structure oG (P:pQ) (I:fI->Prop) (fr:fR):Prop where
 oper:fr.mode=.run->∀o,fr.oper?=some o->∀f,Jp fr.eval o f->jE P I f
 range:fr.mode=.run->fr.roundOf=none->∀x ps a b k,fr.todo=.code (.rangeFunc x ps a b)::k->∀fn u v f,fr.eval x=.func fn u v->vk fn f->jE P I f
 defers:fr.mode≠.run->∀d ds,fr.defers=d::ds->∀f,xq d.target f->jE P I f
def TL(P:pQ)(F:wD->GStep)(w:wD):Prop:=
 ∃k c,(∀τ d j,j.ok->Agree w k τ d->(j=noJ\/c.isEnd=false)->∃f,(∀e∈f,okE c.room e)/\F (w.tp τ d j)=Ac8 f (GStep.tp c τ (d+k) j))/\(∀e∈c.es,okE c.room e)/\Jq P c/\w.heap.size<=c.room
section
variable {P:pQ} {I:fI->Prop} {w:wD}
def Dy(c:GStep):Ac8 #[] c=c:=by cases c<;>simp[Ac8]
def UA(x y:Array Event)(c:GStep):Ac8 x (Ac8 y c)=Ac8 (x++y) c:=by cases c<;>simp[Ac8]
theorem UC(es:Array Event)(c:GStep):(Ac8 es c).isEnd=c.isEnd:=by cases c<;>rfl
theorem UD(c:GStep)(τ:Nat->qS->Nat)(d:Nat)(j:dA):(c.tp τ d j).isEnd=c.isEnd:=by cases c<;>rfl
theorem fB(w:wD)(τ c:Nat->qS->Nat)(d d':Nat)(j:dA):(w.tp τ d noJ).tp c d' j=w.tp c d' j:=by grind [World.tp,uY]
def fC(h:Started w)(τ:Nat->qS->Nat)(d:Nat):Started (w.tp τ d noJ):=by have e:(w.tp τ d noJ).heap=w.heap:=uY _;intro n o c;rw[e]at c;exact h n o c
def TL.const{c:wD->GStep}(h:∀τ d j,c (w.tp τ d j)=(c w).tp τ d j)(he:∀e∈(c w).es,okE (c w).room e)(f:Jq P (c w))(hr:w.heap.size<=(c w).room):TL P c w:=
 ⟨0,c w,λτ d j _ _ _=>⟨#[],λe he=>by simp at he,by rw[Dy];exact h τ d j⟩,he,f,hr⟩
theorem TL.go(m:jR g)(q:Started w)(f:g.dying=none:=by rfl)(c:g.status=.running\/g.status=.finished:=by first|exact .inl rfl|exact .inr rfl):TL P (λw=>.go g w) w:=.const (λ_ _ _=>rfl) (λe i=>by simp[GStep.es]at i) (.inl ⟨m,f,c,q⟩) (nR _)
def TL.dy(f:g.dyingOn P):TL P (λw=>.go g w) w:=.const (λ_ _ _=>rfl) (λe c=>by simp[Adu]at c) (.inr f) (nR _)
theorem TL.ended{o:Outcome}:TL P (λw=>.ended o w) w:=.const (λ_ _ _=>rfl) (λe c=>by simp[Adu]at c) trivial (nR _)
def TL.ite{F e:wD->GStep}{c:Prop}[Decidable c](h:c->TL P F w)(f:¬c->TL P e w):TL P (λw=>if c then F w else e w) w:=by by_cases hc:c<;>simp_all
def TL.join{α:Type}{s:Sem α}{F:wD->GStep}{Ψ:Ady α->GStep}{R:wD->Ady α}{k:Nat}(S:∀w,∃f,(∀e∈f,e∈(s.runT P w #[]).2)/\F w=Ac8 f (Ψ (s.runT P w #[]).1))(hr:∀τ d j f,j.ok->Agree w k τ d->(j=noJ\/(R w').fails=false)->∃c,s.runT P (w.tp τ d j) f=(R (w'.tp τ (d+k) j),c)/\More (R w').room f c)(T:(R w').room=w'.heap.size)(W:w.heap.size<=(R w').room)(m:(R w').fails=true->∀w,(Ψ (R w)).isEnd=true)(h:TL P (λw=>Ψ (R w)) (w'.tp w.tape (w.drawn+k) noJ)):TL P F w:=by
 obtain⟨D,E,J,M,O,Q⟩:=h;have q:(R w').room<=E.room:=by rw[T,<-iw w' w.tape (w.drawn+k) noJ];exact Q
 have A:(R w').fails=true->E.isEnd=true:=λu=>by
  obtain⟨f,_,e⟩:=J w.tape (w.drawn+k) noJ dS (λj hj=>yW) (.inl rfl);have:=m u ((w'.tp w.tape (w.drawn+k) noJ).tp w.tape (w.drawn+k) noJ);dsimp only at e
  grind [UC,UD]
 refine⟨k+D,E,λτ d j hj K hx=>?_,M,O,Nat.le_trans W q⟩;have C:j=noJ\/(R w').fails=false:=hx.imp id (λh=>by
  cases u:(R w').fails with
  |false=>rfl
  |true=>rw[A u]at h;cases h)
 obtain⟨c,Y,Z⟩:=hr τ d j #[] hj (λi V=>K i zP) C;obtain⟨r,G,H⟩:=S (w.tp τ d j);obtain⟨t,X,L⟩:=J τ (d+k) j hj (λi V=>by have:=K (k+i) zP;simp only[IB,IC];rw[show d+k+i=d+(k+i) by omega,show w.drawn+k+i=w.drawn+(k+i) by omega];exact this) hx
 rw[fB]at L;rw[Y]at G H;refine⟨r++t,λe U=>(Aak.1 U).elim (λh=>(Z e (G e h)).elim (λh=>by simp at h) (λh=>h.mono q)) (X e),?_⟩;rw[H,<-UA,show d+(k+D)=d+k+D by omega,<-L]
theorem TL.by{α:Type}{A:α->Prop}{s:Sem α}{F:wD->GStep}{Ψ:Ady α->GStep}(m:∀w,∃i,(∀e∈i,e∈(s.runT P w #[]).2)/\F w=Ac8 i (Ψ (s.runT P w #[]).1))(hc:Calm P A s)(u:Started w)(c:∀x w,(Ψ (.halt (.stuck x) w)).isEnd=true)(h1:∀a w',A a->Started w'->TL P (λw=>Ψ (.ok a w)) w')(h2:∀h w',okH h->Started w'->TL P (λw=>Ψ (.halt h w)) w'):TL P F w:=by
 obtain⟨k,r,q,f,t⟩:=Dh s w hc u
 cases r with
 |ok a w'=>exact TL.join (R:=λw=>.ok a w) m q rfl t (λh=>by cases h) (h1 a _ f.1 (fC f.2 _ _))
 |halt x w'=>
  refine TL.join (R:=λw=>.halt x w) m q rfl t (λh w=>?_) (h2 x _ f.1 (fC f.2 _ _))
  cases x<;>first|exact c _ _|cases h
def zD(m:Dx P)(f:fI)(args:Array vL){k:CallKind}(s:k≠.early):bI (Ac9 P f args k):=by
 refine⟨λit e=>?_,λd q=>by simp[Ac9]at q,s⟩;simp only[Ac9,Aag]at e;subst e
 show codeOk true _=true
 cases r:P.funcs[f]? with
 |none=>rfl
 |some fn=>
  cases i:fn.body with
  |none=>simp[i,codeOk]
  |some c=>simpa[i]using m f fn c r i
theorem qZ(h:bI fr)(v:vL):bI (fr.finish v):=by
 obtain⟨c,h2,q⟩:=h;unfold Frame.finish
 split
 ·rename_i s i m k f;rw[f]at c;exact⟨λit e=>by
   rcases Ab3.1 e with rfl|r
   ·exact c (.inRegion s (i::m)) (Aah ..)
   exact c _ (Rf _ r),h2,q⟩
 ·rename_i l k f;rw[f]at c;exact⟨λit e=>by
   rcases Ab3.1 e with rfl|r
   ·exact trivial
   exact c _ (Rf _ r),h2,q⟩
 ·rename_i k f;rw[f]at c;exact⟨λit e=>c _ (Rf _ e),h2,q⟩
 ·rename_i f;rw[f]at c;exact(c _ (Aah ..)).elim
 ·rename_i f;rw[f]at c;exact(c _ (Aah ..)).elim
 exact⟨c,h2,q⟩
theorem Dz{id:Nat}{df:Bool}:∀{k f:List Item},exitTo id k=some f->(∀it∈k,lK df it)->∀it∈f,lK df it
 |[],_,h,_=>by simp[exitTo]at h
 |x::k,f,h,hk=>by
  have e:∀it∈k,lK df it:=by grind
  unfold exitTo at h
  split at h
  ·split at h
   ·rename_i c _;cases c;cases h;exact e
   rename_i c _;cases c;exact Dz h e
  ·rename_i c;cases c;exact Dz h e
  rename_i c;cases c
theorem jF(h:bI fr){todo:List Item}(c:∀it∈todo,lK fr.roundOf.isNone it):bI {fr with todo:=todo}:=⟨c,h.defers,h.kind⟩
theorem zG(h:bI fr)(m:FrameMode):bI {fr with mode:=m}:=⟨h.items,h.defers,h.kind⟩
def zH(h:bI fr)(c:List PanicEntry):bI (fr.raise c):=by grind [Frame.raise,zG]
theorem DC:∀{callers:List fR} {fr:fR} {v:vL} {e:List fR},Adh fr callers=some (v,e)->(∀f∈callers,bI f)->∀f∈e,bI f:=by
 intro callers
 induction callers with
 |nil=>intro fr v e h;unfold Adh at h;split at h<;>simp_all
 |cons c cs ih=>
  intro fr v e h q;have hc:=q c (Aah ..);have m:∀f∈cs,bI f:=by grind
  unfold Adh at h
  split at h
  ·rename_i i
   grind [zG]
  ·rename_i i
   grind [Ht]
  cases h
theorem UE:∀{callers:List fR} {l:Nat} {v:vL} {e:List fR},Aa9 l callers=some (v,e)->(∀f∈callers,bI f)->∀f∈e,bI f:=by
 intro callers
 induction callers with
 |nil=>intro l v e h;unfold Aa9 at h;cases h
 |cons c cs ih=>
  intro l v e h m;have hc:=m c (Aah ..);have i:∀f∈cs,bI f:=by grind
  unfold Aa9 at h
  grind [Ht,DC]
def DF(r:Dx P)(q:bI fr)(hc:∀f∈callers,bI f)(e:Started w):TL P (λw=>doReturn P main fr callers none v w) w:=by
 unfold doReturn
 cases callers with
 |nil=>
  dsimp only
  split
  ·rename_i i;cases i
  ·exact .ended
  split
  ·exact .go ⟨q,hc⟩ e
  split
  ·exact .go ⟨zD r _ _ zE,λf h=>by simp at h⟩ e
  exact .ended
 |cons c cs=>
  have m:=hc c (Aah ..);have h2:∀f∈cs,bI f:=by grind
  dsimp only
  split
  ·exact .go ⟨qZ m _,h2⟩ e
  ·exact .go ⟨qZ m _,h2⟩ e
  ·rename_i s;exact absurd s q.kind
  refine .go ⟨?_,h2⟩ e
  grind [zG]
def DI(G:Good P I){s:Sem Next}(i:bI fr)(hc:∀f∈callers,bI f)(L:Started w)(q:Calm P lJ s):
 TL P (λw=>stepG.apply P true fr callers none s w) w:=by
 have hke:(fr.kind==CallKind.early)=false:=by simpa using i.kind
 refine TL.by (s:=s) (Ψ:=?_) (λw=>?_) q L ?_ ?_ ?_
 rotate_left
 ·unfold stepG.apply
  simp only[if_true,hke,kF,if_false];generalize s.runT P w #[]=x;obtain⟨r,F⟩:=x;dsimp only;refine⟨seen P fr.fn (match r with|.halt .blocked _|.halt .waiting _|.halt (.unsupported (.initOrder _)) _=>#[]|_=>F),λe A=>?_,?_⟩
  rotate_left
  ·exact rfl
  have:=mem_seen A
  grind
 ·exact λ_ _=>rfl
 ·intro a w' t c
  have D:∀(m:fR) (w':wD),bI m->Started w'->TL P (λw=>Adv {frame:=m,callers,status:=.running,dying:=none} w) w':=λm w' H h2=>.go ⟨H,hc⟩ h2
  cases a with
  |value v=>exact D _ _ (qZ i _) c
  |skip=>exact D _ _ (qZ i _) c
  |enter f args=>refine .go ⟨zD G.bodies _ _ ?_,λx hx=>?_⟩ c<;>grind
  |round l f tmps a b=>
   refine .go ⟨⟨λit C=>?_,λd J=>by simp[Ada]at J,by simp[Ada]⟩,λx hx=>?_⟩ c
   ·simp only[Ada,Ab3,Aav,or_false]at C
    rcases C with rfl|rfl|rfl
    ·exact t.1
    ·exact trivial
    exact t.2
   grind
  |defer d=>
   have M:bI {fr with defers:=d::fr.defers}:=⟨i.items,λx hx=>(Ab3.1 hx).elim (λe=>e▸t) (i.defers x),i.kind⟩
   grind [qZ]
  |recover=>
   dsimp only
   split
   ·rename_i v E O
    have:∀f∈E,bI f:=by grind [DC,UE]
    exact .go ⟨qZ i _,this⟩ c
   grind [qZ]
  |comm cases blocking shape=>exact .const (λ_ _ _=>rfl) (λe A=>by simp[Adu]at A) ⟨⟨i,hc⟩,rfl,t,c⟩ (nR _)
  |spawn d=>
   refine TL.ite (λ_=>?_) (λ_=>?_)
   ·exact .dy (dieOf_okD (P:=P) fr [] "go of nil func value" false w')
   exact .const (λ_ _ _=>rfl) (λe A=>by simp[Adu]at A) trivial (nR _)
  |_=>exact t.elim
 intro h w' K c
 cases h with
 |panic v=>exact .go ⟨zH i _,hc⟩ c
 |unsupported u=>
  cases u with
  |initOrder g=>unfold early;simp only[G.ahead,Bool.not_true,kF,if_false,G.noStep];exact .ended
  |_=>exact .ended
 |stuck x=>exact .ended
 |_=>exact K.elim
theorem je(h:bI fr)(c:fr.todo=it::k):∀x∈k,lK fr.roundOf.isNone x:=λx hx=>h.items x (by grind)
def lM(h:bI fr)(c:fr.todo=it::k):lK fr.roundOf.isNone it:=h.items it (by grind)
def jS{df:Bool}(h:lK df it)(c:∀x∈k,lK df x):∀x∈it::k,lK df x:=by grind
def UF(l:Nat)(j:Option Code)(hj:∀c,j=some c->codeOk false c=true):aj P (Abh l j):=by unfold Abh;refine jD (xw l) λr e=>?_;exact aK (tu P _ ⟨⟨e.1,e.2.1,hj⟩,rfl⟩) λ_=>trivial
def Jr(l:Nat):Calm P (λj:Option Code=>∀c,j=some c->codeOk false c=true) (Aby l):=by
 unfold Aby;refine jD (xw l) λr e=>?_;have k:Calm P (λj:Option Code=>∀c,j=some c->codeOk false c=true) (setObj l (.loop {r with state:=.exhausted}) >>= λ_=>(pure r.pending:Sem (Option Code))):=
  aK (tu P _ ⟨⟨e.1,e.2.1,e.2.2⟩,rfl⟩) λ_=>e.2.2
 dsimp only
 split
 ·exact jD (A:=λ_=>False) (pK _ _) λ_ x=>x.elim
 exact k
def Js(l:Nat):aj P (Aar l):=by
 unfold Aar;refine jD (xw l) λr c=>?_;refine aK (tu P _ ⟨⟨c.1,c.2.1,c.2.2⟩,rfl⟩) λ_=>?_
 split<;>first|exact trivial|exact pK _ _
def Jt(f:fI)(tmps:Array vL)(ps:Array Tmp)(a b:Code)(o:Option Nat)(i:codeOk false a=true)(m:codeOk false b=true):
 Calm P (λr:Nat×List Deferred=>∀d∈r.2,d.good) (Aa1 f tmps ps a b o):=by
 unfold Aa1;have k:∀s:Sem (Nat×List Deferred),Calm P (λr:Nat×List Deferred=>∀d∈r.2,d.good) s->
  Calm P (λr:Nat×List Deferred=>∀d∈r.2,d.good) (s >>= λx=>newObj (.loop {state:=.ready,pending:=none,fn:=f,tmps:=tmps,params:=ps,assign:=a,body:=b,defers:=x.1}) >>= λl=>(pure (l,x.2):Sem (Nat×List Deferred))):=
  λs t=>jD t λr q=>aK (qY P ⟨⟨i,m,λc h=>by cases h⟩,rfl⟩) λ_=>q
 dsimp only
 split
 ·exact jD (xw _) λ_ _=>k _ (λd e=>by cases e)
 refine aK (qY P ⟨rfl,rfl⟩) λr=>k _ ?_
 intro d e;simp only[Aag]at e;subst e;exact trivial
theorem UG{d:Bool}{o:Oper}(h:eY false o=true):eY d o=true:=by
 cases d
 ·exact h
 unfold eY at*
 grind
theorem zI{d:Bool}:∀{c:Code},codeOk false c=true->codeOk d c=true
 |.region _ ops _,h=>by
  simp only[codeOk,Array.all_eq_true_iff_forall_mem]at*
  grind [UG]
 |.seq a b,h|.cond _ a b,h=>by simp only[codeOk,Aal]at*;exact⟨zI h.1,zI h.2⟩
 |.rangeFunc _ _ a b,h=>by simp[codeOk]at h
 |.block _ c,h|.loop c,h|.scope c,h=>by simp only[codeOk]at*;exact zI h
 |.goto _,h=>by simp[codeOk]at h
 |.skip,_|.exit _,_|.label _,_|.ret,_|.refuse _,_=>by simp[codeOk]
def UH(G:Good P I)(hL:oG P I fr)(hm:fr.mode=.run)(m:bI fr)(hc:∀f∈callers,bI f)(D:Started w):
 TL P (λw=>stepG.exec P main true fr callers none w) w:=by
 have E:∀{Q:fR} {w':wD},bI Q->Started w'->TL P (λw=>Adv {frame:=Q,callers,status:=.running,dying:=none} w) w':=λM h2=>.go ⟨M,hc⟩ h2;have F:∀A:Option Code,(∀c,A=some c->codeOk false c=true)->TL P (λw=>match fr.roundOf with
  |none=>if A matches none|some .ret then Adv {frame:={fr with mode:=.returning},callers,status:=.running,dying:=none} w else .ended (.stuck "exit, goto: no such block or label" (fr.pos P)) w
  |some l=>Ac8 (seen P fr.fn ((Abh l A).runT P w #[]).2)<|match ((Abh l A).runT P w #[]).1 with
   |.ok v w=>doReturn P main fr callers none v w
   |.halt _ w=>.ended (.stuck "range over a function: no such loop" (fr.pos P)) w) w:=by
  intro A hj
  split
  ·exact TL.ite (λ_=>E (zG m _) D) (λ_=>.ended)
  rename_i l _
  refine TL.by (P:=P) (s:=Abh l A) (Ψ:=?_) (λw=>⟨seen P fr.fn ((Abh l A).runT P w #[]).2,λe L=>mem_seen L,?_⟩) (UF l A hj) D ?_ ?_ ?_
  rotate_left
  ·generalize (Abh l A).runT P w #[]=x
   obtain⟨r,U⟩:=x;dsimp only;exact rfl
  ·exact λ_ _=>rfl
  ·intro a w' R C
   exact DF G.bodies m hc C
  intro h w' Z C
  exact .ended
 unfold stepG.exec;dsimp only
 split
 ·exact F none (λc h=>by cases h)
 ·exact F (some .ret) (λc h=>by cases h;rfl)
 ·rename_i k q;exact E (jF m (je m q)) D
 ·rename_i l k q;exact E (jF m (je m q)) D
 ·rename_i l k q;exact E (jF m (je m q)) D
 ·rename_i l k q;exact E (jF m (je m q)) D
 ·rename_i a b k q
  have h:codeOk fr.roundOf.isNone a&&codeOk fr.roundOf.isNone b:=lM m q;rw[Aal]at h;exact E (jF m (jS h.1 (jS h.2 (je m q)))) D
 ·rename_i c a b k q
  have h:codeOk fr.roundOf.isNone a&&codeOk fr.roundOf.isNone b:=lM m q;rw[Aal]at h
  split
  ·rename_i t _
   refine E (jF m (jS ?_ (je m q))) D
   cases t
   ·exact h.2
   exact h.1
  exact .ended
 ·rename_i O c k q
  exact E (jF m (jS (show codeOk fr.roundOf.isNone c=true from lM m q) (jS trivial (je m q)))) D
 ·rename_i c k q
  have h:codeOk fr.roundOf.isNone c=true:=lM m q;exact E (jF m (jS h (jS h (je m q)))) D
 ·rename_i c k q
  have h:codeOk fr.roundOf.isNone c=true:=lM m q;exact E (jF m (jS h (jS h (je m q)))) D
 ·rename_i c k q
  have h:codeOk fr.roundOf.isNone c=true:=lM m q;exact E (jF m (jS h (jS h (je m q)))) D
 ·rename_i O k q
  cases hx:exitTo O k with
  |none=>exact F (some (.exit O)) (λc h=>by cases h;rfl)
  |some k'=>exact E (jF m (Dz hx (je m q))) D
 ·rename_i l k q
  have h:codeOk fr.roundOf.isNone (.goto l)=true:=lM m q;simp[codeOk]at h
 ·rename_i f ps a b k q
  have h:(fr.roundOf.isNone&&codeOk false a&&codeOk false b)=true:=lM m q;rw[Aal,Aal]at h;obtain⟨⟨ab,W⟩,X⟩:=h;have S:fr.roundOf=none:=Option.isNone_iff_eq_none.1 ab;have h:=And.intro W X;refine TL.by (P:=P) (s:=Aa1 fr.fn fr.tmps ps a b fr.roundOf) (Ψ:=?_) (λw=>⟨seen P fr.fn ((Aa1 fr.fn fr.tmps ps a b fr.roundOf).runT P w #[]).2,λe L=>mem_seen L,?_⟩) (Jt _ _ _ _ _ _ h.1 h.2) D ?_ ?_ ?_
  rotate_left
  ·generalize (Aa1 fr.fn fr.tmps ps a b fr.roundOf).runT P w #[]=x
   obtain⟨r,U⟩:=x;dsimp only;exact rfl
  ·exact λ_ _=>rfl
  ·intro r w' R C
   refine DI G ⟨jS (df:=fr.roundOf.isNone) trivial (je m q),λd T=>?_,m.kind⟩ hc C ?_
   ·exact(Aa7.1 T).elim (R d) (m.defers d)
   refine jD (xA _ _ _) λd K=>?_
   obtain⟨K,T⟩:=K;refine zC G.funcs G.methods _ ?_ (λg hg=>by
    obtain⟨x,fn,u,v,e1,e2,e3⟩:=K g hg
    cases e1
    exact hL.range hm S _ _ _ _ _ q fn u v g e2 e3) _
   have Y:d.good:=T;unfold Deferred.good at Y
   grind
  intro x w' Z C
  exact .ended
 ·exact .ended
 ·rename_i k q
  refine DI G m hc D ?_
  cases hr:fr.roundOf with
  |none=>exact trivial
  |some l=>exact aK (Js l) λ_=>trivial
 ·rename_i l k q
  refine TL.by (P:=P) (s:=Aby l) (Ψ:=?_) (λw=>⟨seen P fr.fn ((Aby l).runT P w #[]).2,λe L=>mem_seen L,?_⟩) (Jr l) D ?_ ?_ ?_
  rotate_left
  ·generalize (Aby l).runT P w #[]=x
   obtain⟨r,U⟩:=x;dsimp only;exact rfl
  ·exact λ_ _=>rfl
  ·intro r w' R C
   refine E (jF m λit aa=>?_) C
   rcases Aa7.1 aa with M|M
   ·cases r with
    |none=>cases M
    |some c=>simp only[Aaw,Option.toList_some,Aag]at M;subst M;exact zI (R c rfl)
   grind [je]
  intro x w' Z C
  cases x with
  |panic v=>exact E (zH m _) C
  |_=>exact .ended
 ·exact .ended
 ·rename_i q;exact(lM m q).elim
 ·rename_i q;exact(lM m q).elim
 ·rename_i O J ac k q
  have h:J.all (eY fr.roundOf.isNone)=true:=lM m q;refine TL.ite (λ_=>E (jF m (jS h (je m q))) D) (λ_=>?_);refine TL.by (P:=P) (s:=choose (.order fr.fn O)) (Ψ:=?_) (λw=>⟨#[],λe L=>by simp at L,?_⟩) (Dj P _) D ?_ ?_ ?_
  rotate_left
  ·rw[Dy,<-Sem.runT_fst P _ w #[]]
   generalize (choose (.order fr.fn O)).runT P w #[]=x;obtain⟨r,U⟩:=x;dsimp only;exact rfl
  ·exact λ_ _=>rfl
  ·intro t w' R C
   exact E (jF m (jS h (je m q))) C
  intro x w' Z C
  exact .ended
 ·rename_i J k q
  grind [jF,je]
 rename_i J i ad k q
 have h:J.all (eY fr.roundOf.isNone)=true:=lM m q;refine TL.ite (λ_=>?_) (λ_=>E (qZ m _) D);unfold stepG.oper
 cases ho:fr.oper? with
 |none=>exact .ended
 |some o=>
  have H:eY fr.roundOf.isNone o=true:=by
   unfold Frame.oper? at ho
   grind
  have V:TL P (λw=>stepG.apply P true fr callers none (execOp fr.eval o) w) w:=DI G m hc D (xB G.funcs G.methods _ (λ_=>rfl) _ (hL.oper hm o ho) H);dsimp only
  split
  ·rename_i l c hr T
   rw[hr]at H;simp only[Option.isNone_some]at H;unfold eY at H
   grind
  exact V
def zJ(fn:Func)(c:Array vL):aj P (results fn c):=by
 unfold results;refine aK (Dl _ _ λr=>?_) λ_=>trivial
 split
 ·exact trivial
 grind [aK,Jc,Dp]
def Ju(b:Nat):Calm P (λc:List Deferred=>∀d∈c,d.good) (sU b):=by
 unfold sU;refine uZ _ (λo i=>?_) (.inl ⟨_,rfl⟩)
 split
 ·rename_i c;have e:c=[]:=i;subst e;exact aK (tu P _ ⟨trivial,rfl⟩) λ_=>λd f=>by cases f
 exact trivial
theorem Jv:∀(l:List PanicEntry) (b:Bool),aj P (Acs l b)
 |[],_=>trivial
 |e::older,b=>by
  have c:=Jv older
  haveI:∀b,IsCalm P (Acs older b):=λb=>⟨c b⟩
  clear c;unfold Acs
  (repeat' first
  |exact fA _ _
  |exact IsCalm.out
  |(refine aK ?_ (λ_=>?_))
  |(refine Di ?_)
  |(refine mF (λ_=>?_) (λ_=>?_))
  |split
  |exact trivial
  |dsimp only)
def UJ(G:Good P I){d:Deferred}(H:∀g,xq d.target g->jE P I g)(m:bI fr)(hc:∀f∈callers,bI f)(D:d.good)(M:Started w):TL P (λw=>callDeferred P fr callers none d w) w:=by
 have q:∀{t:fR} {w':wD},bI t->Started w'->TL P (λw=>Adv {frame:=t,callers,status:=.running,dying:=none} w) w':=λF h2=>.go ⟨F,hc⟩ h2;have O:match d.target with|.builtin b .. =>Dw b=true|.coroexit _=>False|_=>True:=by
  unfold Deferred.good at D
  grind
 unfold callDeferred;refine TL.ite (λ_=>.ended) (λ_=>?_);refine TL.by (P:=P) (s:=invoke d.target d.args) (Ψ:=?_) (λw=>?_) (zC G.funcs G.methods _ O H _) M ?_ ?_ ?_
 rotate_left
 ·generalize (invoke d.target d.args).runT P w #[]=x;obtain⟨r,E⟩:=x;dsimp only;refine⟨seen P fr.fn (match r with|.halt .blocked _|.halt .waiting _=>#[]|_=>E),λe J=>?_,?_⟩
  rotate_left
  ·exact rfl
  have:=mem_seen J
  grind
 ·exact λ_ _=>rfl
 ·intro a w' C i
  cases a with
  |enter f args=>
   refine .go ⟨zD G.bodies _ _ zE,λx hx=>?_⟩ i
   grind
  |round l f tmps a b=>
   refine .go ⟨⟨λit A=>?_,λd D=>by simp[Ada]at D,by simp[Ada]⟩,λx hx=>?_⟩ i
   ·simp only[Ada,Ab3,Aav,or_false]at A
    rcases A with rfl|rfl|rfl
    ·exact C.1
    ·exact trivial
    exact C.2
   grind
  |recover=>
   dsimp only
   split
   ·rename_i v Q _ L;exact .go ⟨m,DC L hc⟩ i
   grind
  |value v=>exact q m i
  |skip=>exact q m i
  |defer d=>exact q m i
  |spawn d=>exact q m i
  |comm a b c=>exact q m i
  |_=>exact C.elim
 intro h w' K i
 cases h with
 |panic v=>exact q (zH m _) i
 |unsupported u=>exact .ended
 |stuck x=>exact .ended
 |_=>exact K.elim
def UK(G:Good P I)(U:oG P I fr)(V:fr.mode≠.run)(A:bI fr)(hc:∀f∈callers,bI f)(C:Started w):TL P (λw=>unwind P main fr callers none w) w:=by
 have S:∀{D:fR} {w':wD},bI D->Started w'->TL P (λw=>Adv {frame:=D,callers,status:=.running,dying:=none} w) w':=λT h2=>.go ⟨T,hc⟩ h2;have E:∀{d:Deferred} {H:List Deferred},fr.defers=d::H->d.good/\∀x∈H,x.good:=λh=>⟨A.defers _ (by grind),λx hx=>A.defers _ (by grind)⟩;unfold unwind
 split
 ·rename_i i L H q;refine TL.by (P:=P) (s:=sU i) (Ψ:=?_) (λw=>⟨seen P fr.fn ((sU i).runT P w #[]).2,λe F=>mem_seen F,?_⟩) (Ju _) C ?_ ?_ ?_
  rotate_left
  ·generalize (sU i).runT P w #[]=x;obtain⟨r,M⟩:=x;dsimp only;exact rfl
  ·exact λ_ _=>rfl
  ·intro J w' O m;refine S ⟨A.items,λx hx=>?_,A.kind⟩ m
   grind
  intro x w' Q m;exact .ended
 ·rename_i d H _ q;exact UJ G (U.defers V _ _ q) ⟨A.items,(E q).2,A.kind⟩ hc (E q).1 C
 split
 ·exact .ended
 ·rename_i t _;refine TL.ite (λ_=>.ended) (λ_=>?_)
  cases callers with
  |cons c cs=>exact .go ⟨zH (hc c (Aah ..)) _,λf h=>hc f (Rf _ h)⟩ C
  |nil=>
   dsimp only;refine TL.ite (λ_=>.go ⟨A,hc⟩ C) (λ_=>?_);refine TL.by (P:=P) (s:=Acs t false) (Ψ:=?_) (λw=>⟨#[],λe F=>by simp at F,?_⟩) (Jv _ _) C ?_ ?_ ?_
   rotate_left
   ·rw[Dy,<-Sem.runT_fst P _ w #[]];generalize (Acs t false).runT P w #[]=x;obtain⟨r,M⟩:=x;dsimp only;exact rfl
   ·exact λ_ _=>rfl
   ·intro R w' O m;exact .dy ⟨.inl rfl,_,rfl,rfl,G.noEnter _⟩
   intro x w' Q m
   cases x with
   |unsupported u=>exact .ended
   |_=>exact .ended
 split
 ·exact DF G.bodies A hc C
 rename_i K _;refine TL.by (P:=P) (s:=results K fr.tmps) (Ψ:=?_) (λw=>⟨seen P fr.fn ((results K fr.tmps).runT P w #[]).2,λe F=>mem_seen F,?_⟩) (zJ _ _) C ?_ ?_ ?_
 rotate_left
 ·generalize (results K fr.tmps).runT P w #[]=x;obtain⟨r,M⟩:=x;dsimp only;exact rfl
 ·exact λ_ _=>rfl
 ·intro v w' O m;exact DF G.bodies A hc m
 intro x w' Q m
 cases x with
 |stuck s=>exact .ended
 |_=>exact .ended
def DJ(G:Good P I)(q:oG P I g.frame)(c:jR g)(s:g.dying=none)(r:Started w):TL P (λw=>stepG P main g w) w:=by
 obtain⟨fr,callers,f,i,e⟩:=g
 cases s
 unfold stepG;dsimp only
 split
 ·rename_i m;cases m
 ·exact UH G q (by assumption) c.frame c.callers r
 exact UK G q (by assumption) c.frame c.callers r
end
end
end Go.Tp
