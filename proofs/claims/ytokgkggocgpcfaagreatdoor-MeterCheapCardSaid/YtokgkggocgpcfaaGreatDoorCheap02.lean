/- Part of a proof; no conditions. -/
import Derived.Test.YtokgkggocgpcfaaGreatDoorCheap01
import Derived.CallsIn
import Derived.Calls
import Derived.Lone
open Array renaming getElem?_eq_some_iff->aS,getElem?_setIfInBounds_self_of_lt->Ad0,getElem?_setIfInBounds_ne->Ad2,mapM_eq_mapM_toList->Ad4,getElem?_push->Rw,forIn_toList->Ad9,getElem?_map->Aea,size_push->Aef,mem_push->Aej,swapAt!->Ael,range->Aep,getElem?_eq_getElem->aG
open Std.Legacy.Range renaming forIn_eq_forIn_range'->Ad1
open Classical renaming byContradiction->Ad3,choose_spec->Ad7,choose->Aed
open List renaming getElem?_cons_zero->Ad5,getElem?_cons_succ->Ad6,getElem?_toArray->Ad8,mem_cons_of_mem->Rf,mem_cons_self->Aah,foldlM_cons->Aee,range_succ->Aeg,foldl_cons->Aeh,forIn_cons->Aei,mapM_cons->Aek,range->Aes
open Go.Stepped.next renaming injEq->Aeb
open Go.Builtin renaming unsafeAdd_->x8,firstCells->Aaa,append_->Aa3,lenOf->Ab0,len_->Acf,min2->Aci,max2->Ach,max_->Acj
open Bool renaming false_eq_true->kF,not_eq_true'->Aec,and_eq_true->Aal
open Go.Instr renaming buildSlice->Aan,sureAddr->Abb,makeFunc->Abd,fieldAt->Abq,storeAt->Abp,extract->Abu,indexAt->Abr,getLoop->Abx,loadAt->Ab9,build->Acy,index->Ac2,range->Ac3,yield->Aer,fill->Aet,next->Adi
open Go.World renaming farStore->Aba,farLoad->Abm,frozen?->Aem,setCell->Abn,shape?->Aen,cell?->Aeq
open Go.Op renaming floatArith->Abz,twoPlaces->Acd,eqGuardIn->Acb,stringOp->Ac5,intArith->Ac4,floatCmp->Ac6,addrSub->Adl,addrCmp->Adm,equalIn->Adk,addrMod->Adn,intCmp->Adr,intDiv->Adq,equal->Aew
open Go renaming Addr->aD,FuncId->fI,Goroutine->gO,Program->pQ,Question->qS,TypeId->tI,Value->vL,World->wD,runtimePanic->Ab6,communicate->Aeo,boundsPanic->Aco,unsupported->Acl,move_oneG->Aeu,getObj->Aex,stepT->Aey,runN->Aez
open Go.Sem renaming bind->Aev,runT->Adt
open Option.some renaming injEq->oI
set_option maxRecDepth 100000
set_option maxHeartbeats 4000000
set_option linter.all false
namespace Go.Tp
variable {w w':wD} {g:gO} {Stop:gO->wD->Prop} {es:Array Event}
structure Edge (P:pQ) (g:gO) (w:wD) (τ:Nat->qS->Nat) (d k:Nat) (g':gO) (w':wD):Prop where
 room:w.heap.size<=w'.heap.size
 step:∀j,j.ok->∃es,(∀e∈es,okE w'.heap.size e)/\stepG P true g (w.tp τ d j)=.go g' (w'.tp τ (d+k) j) es
inductive Run (P:pQ) (Stop:gO->wD->Prop):gO->wD->Prop
 |stop {g w: _}:Stop g w->Run P Stop g w
 |step {g w: _} (next:(Nat->qS->Nat)->Nat->Nat×gO×wD):g.status=.running->(∀τ d,Run P Stop (next τ d).2.1 (next τ d).2.2)->(∀τ d,Edge P g w τ d (next τ d).1 (next τ d).2.1 (next τ d).2.2)->Run P Stop g w
def Run.step'{P:pQ}(i:g.status=.running)(h:∀e d,∃k m w',Run P Stop m w'/\Edge P g w e d k m w'):Run P Stop g w:=by
 have f:∀e d,∃x:Nat×gO×wD,Run P Stop x.2.1 x.2.2/\Edge P g w e d x.1 x.2.1 x.2.2:=by simp_all
 exact .step (λe d=>Aed (f e d)) i (λe d=>(Ad7 (f e d)).1) (λe d=>(Ad7 (f e d)).2)
section
variable {P:pQ} {I:fI->Prop}
theorem xC{g':gO}(e:g.status=.running)(d:g'.status=.running\/g'.status=.blocked)(h:stepG P true g w=.go g' w' es):
 step P (oneG g w)=.next (oneG g' w'):=by
 rw[step,Aey,Aeu e]
 rcases d with f|f<;>simp[runT,oneG,Ael,h,f]
def DK{o:Outcome}(d:g.status=.running)(h:stepG P true g w=.ended o w' es):
 step P (oneG g w)=.ended o w':=by
 rw[step,Aey,Aeu d];simp[runT,oneG,Ael,h]
theorem DL{g':gO}(e:g.status=.running)(d:g'.status=.finished)(h:stepG P true g w=.go g' w' es):
 step P (oneG g w)=.next (oneG g' w'):=by
 rw[step,Aey,Aeu e];simp[runT,oneG,Ael,h,d]
def DN(d:g.status=.blocked):∃o w',step P (oneG g w)=.ended o w':=by obtain⟨p,i,s,m,f⟩:=g;simp only at d;subst d;obtain⟨o',w',e,q⟩:=endWith_ended w 2 (bytes "fatal error: all goroutines are asleep - deadlock!\n") (.fatal "all goroutines are asleep - deadlock!");refine⟨o',w',?_⟩;simp[step,Aey,move,ask,askOn,oneG,runnable_eq,due,ahead,Goroutine.canRun,Aeg,pure];rw[e]
def UL(p:Started w){m:Array gO}(y:∀r b,partners m r b=[])(c:CommCase):ways w m c=[]:=by
 unfold ways
 split
 ·rename_i r _
  split
  ·rename_i f e d _ _ _ _ i _;have h:(Obj.chan f e d _ _ _).started:=p _ _ i;obtain⟨s,h2,q,_⟩:=h
   grind
  ·rename_i _ e d _ _ _ i _;have h:(Obj.chan _ e d _ _ _).started:=p _ _ i;obtain⟨_,h2,q,_⟩:=h
   grind
  rfl
 rfl
def Jw{cases:Array CommCase}{shape:CommShape}(e:Started w):
 (∃o w',(Aeo P {timers:=#[],alone:=none,slice:=none} #[{(default:gO)with status:=.finished}] 0 g cases true shape w).1=.ended o w')\/
 (Aeo P {timers:=#[],alone:=none,slice:=none} #[{(default:gO)with status:=.finished}] 0 g cases true shape w).1=.next (oneG {g with status:=.blocked,offers:=some (cases,shape)} w):=by
 have d:∀r b,partners #[{(default:gO)with status:=.finished}] r b=[]:=λr b=>by simp[partners]
 unfold Aeo;simp only[UL e d]
 split
 ·exact .inl ⟨_,_,rfl⟩
 rw[if_pos yW];simp only[if_true,waitingAt,timerAhead];rw[if_neg (by
  simp only[Array.any_eq_true];rintro⟨i,f,h⟩
  split at h<;>simp at h)]
 exact .inr (by simp[oneG])
def Jy{n:Nat}{m d:Machine}(h:Aez P n m=.next d):m.gs.size<=d.gs.size:=
 runNT_size P n m d #[] _ (Prod.ext (by rw[runNT_fst,h]) rfl)
theorem DR:∀(n:Nat) {g:gO} {w:wD} {d:Machine},g.dyingOn P->Aez P n (oneG g w)=.next d->∃f w',d=oneG f w'/\f.dyingOn P
 |0,g,w,d,h,e=>by
  simp only[Aez,Aeb]at e
  grind
 |n+1,g,w,d,h,e=>by
  rcases step_dyingOn (w:=w) h with⟨f,p,i,m⟩|⟨o,p,i,_⟩
  ·simp only[Aez,i]at e;exact DR n m e
  simp only[Aez,i]at e;cases e
def DT(d:g.status=.finished):∃o w',step P (oneG g w)=.ended o w':=by obtain⟨p,i,s,m,f⟩:=g;simp only at d;subst d;obtain⟨o',w',e,q⟩:=endWith_ended w 2 (bytes "fatal error: no goroutines (main called runtime.Goexit) - deadlock!\n") (.fatal "no goroutines (main called runtime.Goexit) - deadlock!");refine⟨o',w',?_⟩;simp[step,Aey,move,ask,askOn,oneG,runnable_eq,due,ahead,Goroutine.canRun,Aeg,pure];rw[e]
def zK(Stop:gO->wD->Prop)(m:Machine):Prop:=∃g w,m=oneG g w/\g.status=.running/\g.dying=none/\Stop g w
structure Fine (g:gO) (w:wD):Prop where
 good:jR g
 alive:g.dying=none
 runs:g.status=.running
 started:Started w
def pO(Stop:gO->wD->Prop)(g:gO)(w:wD):Prop:=Stop g w/\Fine g w
def UM(G:Good P I)(C:Fine g w)(S:¬Run P (pO Stop) g w):
 ∃(A:Nat->qS->Nat) (d:Nat),∀(l:Nat) (q:Nat->qS->Nat),(∀i,q (l+i)=A (d+i))->
  (∃n Z,Aez P (n+1) (oneG g (w.tp q l noJ))=.next Z/\zK Stop Z)->oG P I g.frame->
  ∃k y w',Fine y w'/\¬Run P (pO Stop) y w'/\∀p:Nat->qS->Nat,(∀i,i<k->p (l+i)=A (d+i))->step P (oneG g (w.tp p l noJ))=.next (oneG y (w'.tp p (l+k) noJ)):=by
 have V:∃(A:Nat->qS->Nat) (d:Nat),∀k y w',Run P (pO Stop) y w'->¬Edge P g w A d k y w':=by refine Ad3 λhc=>S (.step' C.runs λA d=>Ad3 λh2=>hc ⟨A,d,λk y w' X he=>h2 ⟨k,y,w',X,he⟩⟩)
 obtain⟨A,d,W⟩:=V;refine⟨A,d,λl q Q ⟨n,Z,f,J⟩ hL=>?_⟩;obtain⟨k,st,hF,U,E,H⟩:=DJ G (main:=true) hL C.good C.alive (fC C.started A d);have M:∀p:Nat->qS->Nat,(∀i,i<k->p (l+i)=A (d+i))->∃es,stepG P true g (w.tp p l noJ)=GStep.after es (st.tp p (l+k) noJ):=λp h=>by
  obtain⟨es,_,e⟩:=hF p l noJ dS h (.inl rfl)
  grind [fB]
 obtain⟨es,e⟩:=M q λi _=>Q i;simp only[Aez]at f;obtain⟨gx,wx,rfl,O,ab,_⟩:=J
 cases st with
 |go y w' es0=>
  rcases E with⟨h1,h2,D|D,h4⟩|N
  ·refine⟨k,y,w',⟨h1,h2,D,h4⟩,λX=>W k y w' X ⟨by rw[<-iw w A d noJ];exact H,λj hj=>?_⟩,λp h=>?_⟩
   ·obtain⟨L,q1,q2⟩:=hF A d j hj (λi _=>rfl) (.inr rfl);rw[fB]at q2;exact⟨L++es0,λx hx=>(Array.mem_append.1 hx).elim (q1 x) (U x),q2⟩
   obtain⟨L,T⟩:=M p h;exact xC C.runs (.inl D) T
  ·exfalso;rw[DL C.runs D e]at f
   cases n with
   |zero=>simp only[Aez,Aeb]at f;have:=congrArg (λm=>(m.gs[0]?).map (·.status)) f;simp[oneG,O,D]at this
   |succ n=>
    obtain⟨o,w3,h6⟩:=DT (P:=P) (g:=y) (w:=w'.tp q (l+k) noJ) D;simp only[Aez,h6]at f
    cases f
  exfalso;rw[xC C.runs N.1 e]at f;obtain⟨g2,w2,T,⟨_,dd,aa,_⟩⟩:=DR n N f;have:gx=g2:=by have:=congrArg (λm=>m.gs[0]?) T;simpa[oneG]using this
  grind
 |ended o w' es0=>rw[DK C.runs e]at f;cases f
 |comm g1 cases bl shape w1 es0=>
  exfalso;obtain⟨_,_,D,h4⟩:=E;subst D;have Y:∀s,step P (oneG g (w.tp q l noJ))=s->s=(Aeo P {timers:=#[],alone:=none,slice:=none} #[{(default:gO)with status:=.finished}] 0 g1 cases true shape (w1.tp q (l+k) noJ)).1:=by intro s hs;rw[<-hs,step,Aey,Aeu C.runs];simp[runT,oneG,Ael,e,GStep.after,GStep.tp]
  rcases Jw (P:=P) (g:=g1) (cases:=cases) (shape:=shape) (fC h4 q (l+k))with⟨o,w2,h5⟩|h5
  ·grind
  rw[Y _ rfl,h5]at f;simp only at f
  cases n with
  |zero=>simp only[Aez,Aeb]at f;have:=congrArg (λm=>(m.gs[0]?).map (·.status)) f;simp[oneG,O]at this
  |succ n=>
   obtain⟨o,w3,h6⟩:=DN (P:=P) (g:={g1 with status:=.blocked,offers:=some (cases,shape)}) (w:=w1.tp q (l+k) noJ) rfl;simp only[Aez,h6]at f
   cases f
 |spawn g1 ch w1 es0=>
  exfalso;have h5:step P (oneG g (w.tp q l noJ))=.next {world:=w1.tp q (l+k) noJ,gs:=#[g1,ch],rest:={timers:=#[],alone:=none,slice:=none}}:=by rw[step,Aey,Aeu C.runs];simp[runT,oneG,Ael,e,GStep.after,GStep.tp]
  rw[h5]at f;have:=Jy f;simp[oneG]at this
 |_=>exact E.elim
def zL(P:pQ)(I:fI->Prop)(n:Nat)(m:Machine):Prop:=∀k,k<n->∀g w,Aez P k m=.next (oneG g w)->oG P I g.frame
structure vw (P:pQ) (Stop:gO->wD->Prop) (g0:gO) (w0:wD) (n:Nat) (x:gO×wD×List (qS->Nat)):Prop where
 fine:Fine x.1 x.2.1
 bad:¬Run P (pO Stop) x.1 x.2.1
 reach:∀τ:Nat->qS->Nat,(∀i (h:i<x.2.2.length),τ i=x.2.2[i])->Aez P n (oneG g0 (w0.tp τ 0 noJ))=.next (oneG x.1 (x.2.1.tp τ x.2.2.length noJ))
 early:∀m,m<=n->∀τ:Nat->qS->Nat,(∀i (h:i<x.2.2.length),τ i=x.2.2[i])->∀m',Aez P m (oneG g0 (w0.tp τ 0 noJ))=.next m'->¬zK Stop m'
def UN(G:Good P I)(hT:∀g w p d,Stop g (w.tp p d noJ)->Stop g w){J:gO}{V:wD}(H:∀p,∃n U,Aez P n (oneG J (V.tp p 0 noJ))=.next U/\zK Stop U/\zL P I n (oneG J (V.tp p 0 noJ))){n:Nat}{x:gO×wD×List (qS->Nat)}(hx:vw P Stop J V n x):
 ∃y,vw P Stop J V (n+1) y/\x.2.2 <+: y.2.2:=by
 obtain⟨g,w,L⟩:=x;obtain⟨p,d,A⟩:=UM G hx.fine hx.bad;simp only at A;have C:∀i (h:i<L.length),(λi=>if h:i<L.length then L[i]else p (d+(i-L.length)):Nat->qS->Nat) i=L[i]:=by grind
 obtain⟨N,U,X,D,E⟩:=H (λi=>if h:i<L.length then L[i]else p (d+(i-L.length)));have hlt:n<N:=Nat.lt_of_not_le λY=>hx.early N Y _ C U X D;obtain⟨q,rfl⟩:∃q,N=n+(q+1):=⟨N-n-1,zP⟩;obtain⟨k,W,w',O,M,aa⟩:=A L.length (λi=>if h:i<L.length then L[i]else p (d+(i-L.length))) (λi=>by simp[show ¬(L.length+i<L.length) by omega]) ⟨q,U,by have:=hx.reach _ C;rw[runN_add,this]at X;exact X,D⟩ (E n zP _ _ (hx.reach _ C))
 have Q:(L++(Aes k).map λi=>p (d+i)).length=L.length+k:=yW
 have hL:∀f:Nat->qS->Nat,(∀i (h:i<(L++(Aes k).map λi=>p (d+i)).length),f i=(L++(Aes k).map λi=>p (d+i))[i])->
  (∀i (h:i<L.length),f i=L[i])/\∀i,i<k->f (L.length+i)=p (d+i):=λf h=>by
  grind
 have hr:∀f:Nat->qS->Nat,(∀i (h:i<(L++(Aes k).map λi=>p (d+i)).length),f i=(L++(Aes k).map λi=>p (d+i))[i])->
  Aez P (n+1) (oneG J (V.tp f 0 noJ))=.next (oneG W (w'.tp f (L++(Aes k).map λi=>p (d+i)).length noJ)):=λf h=>by
  obtain⟨h1,h2⟩:=hL f h;rw[runN_add,hx.reach f h1,Q];simp only[Aez,aa f h2]
 refine⟨(W,w',L++(Aes k).map λi=>p (d+i)),⟨O,M,hr,λm hm f h m2 s S=>?_⟩,List.prefix_append _ _⟩;by_cases Z:m<=n
 ·exact hx.early m Z f (hL f h).1 m2 s S
 obtain rfl:m=n+1:=zP
 rw[hr f h]at s;obtain⟨gx,wx,e,_,_,T⟩:=S;simp only[Aeb]at s;rw[e]at s;have e1:W=gx:=by have:=congrArg (λm=>m.gs[0]?) s;simpa[oneG]using this
 have e2:(w'.tp f (L++(Aes k).map λi=>p (d+i)).length noJ)=wx:=by have:=congrArg (λm=>m.world) s;simpa[oneG]using this
 rw[<-e1,<-e2]at T;exact M (.stop ⟨hT _ _ _ _ T,O⟩)
def DU(G:Good P I)(V:∀g w q d,Stop g (w.tp q d noJ)->Stop g w)(W:Fine g w)(H:∀q,∃n J,Aez P n (oneG g (w.tp q 0 noJ))=.next J/\zK Stop J/\zL P I n (oneG g (w.tp q 0 noJ))):Run P (pO Stop) g w:=by
 classical
 refine Ad3 λA=>?_;have Y:vw P Stop g w 0 (g,w,[]):=by
  refine⟨W,A,λq _=>rfl,λm hm q _ J s M=>?_⟩;obtain rfl:m=0:=zP
  simp only[Aez,Aeb]at s;obtain⟨X,wx,e,_,_,E⟩:=M;rw[e]at s;have S:g=X:=by have:=congrArg (λm=>m.gs[0]?) s;simpa[oneG]using this
  have T:w.tp q 0 noJ=wx:=by have:=congrArg (λm=>m.world) s;simpa[oneG]using this
  rw[<-S,<-T]at E;exact A (.stop ⟨V _ _ _ _ E,W⟩)
 have Q:∀n (x:{x // vw P Stop g w n x}),∃y:{y // vw P Stop g w (n+1) y},x.1.2.2 <+: y.1.2.2:=λn x=>by obtain⟨y,hy,hp⟩:=UN G V H x.2;exact⟨⟨y,hy⟩,hp⟩
 let f:(n:Nat)->{x // vw P Stop g w n x}:=λn=>Nat.rec ⟨(g,w,[]),Y⟩ (λn x=>Aed (Q n x)) n
 have D:∀n,(f n).1.2.2 <+:(f (n+1)).1.2.2:=by grind
 have p:∀m k,(f m).1.2.2 <+:(f (m+k)).1.2.2:=λm k=>by
  induction k with
  |zero=>exact List.prefix_refl _
  |succ k ih=>exact ih.trans (D (m+k))
 have L:∀m n i (U:i<(f m).1.2.2.length) (h2:i<(f n).1.2.2.length),(f m).1.2.2[i]=(f n).1.2.2[i]:=λm n i U h2=>by
  have S:=(p m n).getElem U;have T:=(p n m).getElem h2
  grind
 let q:Nat->qS->Nat:=λi=>if h:∃m,i<(f m).1.2.2.length then(f (Aed h)).1.2.2[i]'(Ad7 h)else λ_=>0
 have O:∀n i (h:i<(f n).1.2.2.length),q i=(f n).1.2.2[i]:=λn i h=>by
  have aa:∃m,i<(f m).1.2.2.length:=⟨n,h⟩
  grind
 obtain⟨N,J,Z,C,_⟩:=H q;exact(f N).2.early N (Nat.le_refl _) q (O N) J Z C
end
end Go.Tp
namespace Go.Tp
open Go.Conc Go.ConcN
section
variable {P:pQ}
theorem fV{g:Nat}{fn:fI}{pos:String}{es:Array Event}{d:MemOp}(h:d∈MemOp.ofEvents g fn pos es):d.g=g:=by grind [Go.Conc.mem_ofEvents]
end
end Go.Tp
namespace Go.Tp
variable {v v' x x':vL} {a a' b b':aD} {c c':Array vL} {t:tI} {o o':Obj} {r r':Nat} {F:fI->Bool} {l l':List vL} {u w:wD}
structure Rl where
 rel:Nat->Nat->Prop
 ch:Nat->Nat->Prop
 own:Nat->Prop
variable {R' R R1:Rl}
structure Rl.le (R R':Rl):Prop where
 rel:∀b b',R.rel b b'->R'.rel b b'
 ch:∀b b',R.ch b b'->R'.ch b b'
 own:∀b',R.own b'->R'.own b'
def Rl.le.refl(R:Rl):R.le R:=⟨λ_ _ h=>h,λ_ _ h=>h,λ_ h=>h⟩
def Rl.le.trans{d:Rl}(h:R.le R')(e:R'.le d):R.le d:=⟨λ_ _ x=>e.rel _ _ (h.rel _ _ x),λ_ _ x=>e.ch _ _ (h.ch _ _ x),λ_ x=>e.own _ (h.own _ x)⟩
def _root_.Go.Value.single:vL->Prop
 |.agg _|.tuple _|.bool _|.pointer none|.nilIface|.nilFunc|.func (.method _) _ _=>False
 |_=>True
inductive AR (R:Rl):aD->aD->Prop
 |mk {b b':Nat} (o:Nat) (s:Option Nat):R.rel b b'->AR R ⟨b,o,s⟩ ⟨b',o,s⟩
inductive VR (F:fI->Bool) (R:Rl):vL->vL->Prop
 |bool (b:Bool):VR F R (.bool b) (.bool b)
 |int (k:IntKind) (n:Int):VR F R (.int k n) (.int k n)
 |float (k:FloatKind) (n:Nat):VR F R (.float k n) (.float k n)
 |string (s:ByteArray):VR F R (.string s) (.string s)
 |nilPointer:VR F R (.pointer none) (.pointer none)
 |pointer {a a':aD}:AR R a a'->VR F R (.pointer (some a)) (.pointer (some a'))
 |nilSlice (n c:Nat):VR F R (.slice none n c) (.slice none n c)
 |slice {a a':aD} (n c:Nat):AR R a a'->VR F R (.slice (some a) n c) (.slice (some a') n c)
 |nilMap:VR F R (.map none) (.map none)
 |map {r r':Nat}:R.rel r r'->VR F R (.map (some r)) (.map (some r'))
 |yield {r r':Nat}:R.rel r r'->VR F R (.func (.yield r) #[] #[]) (.func (.yield r') #[] #[])
 |nilChan:VR F R (.chan none) (.chan none)
 |chan {r r':Nat}:R.ch r r'->VR F R (.chan (some r)) (.chan (some r'))
 |nilFunc:VR F R .nilFunc .nilFunc
 |func (f:fI) {a a' c c':Array vL}:F f=true->a.size=a'.size->(∀(i:Nat) (v v':vL),a[i]? =some v->a'[i]? =some v'->VR F R v v')->
  c.size=c'.size->(∀(i:Nat) (v v':vL),c[i]? =some v->c'[i]? =some v'->VR F R v v')->VR F R (.func (.func f) a c) (.func (.func f) a' c')
 |nilIface:VR F R .nilIface .nilIface
 |agg {c c':Array vL}:c.size=c'.size->(∀(i:Nat) (v v':vL),c[i]? =some v->c'[i]? =some v'->VR F R v v')->VR F R (.agg c) (.agg c')
 |tuple {c c':Array vL}:c.size=c'.size->(∀(i:Nat) (v v':vL),c[i]? =some v->c'[i]? =some v'->VR F R v v')->VR F R (.tuple c) (.tuple c')
 |poison {v':vL}:v'.single->VR F R (.tuple #[]) v'
 |shut {n:String} {a c:Array vL}:VR F R .nilFunc (.func (.method n) a c)
structure VRs (F:fI->Bool) (R:Rl) (c c':Array vL):Prop where
 size:c.size=c'.size
 get:∀(i:Nat) (v v':vL),c[i]? =some v->c'[i]? =some v'->VR F R v v'
structure Kd where
 c:Code->Prop
 f:fI->Prop
 dec:Array (Nat×Deferred)->Option Nat->Option Loop
instance:CoeFun Kd λ_=>Code->Prop:=⟨Kd.c⟩
structure xE (F:fI->Bool) (K:Kd) (R:Rl) (l l':Loop):Prop where
 state:l'.state=l.state
 pending:l'.pending=l.pending
 kP:∀c,l.pending=some c->K c
 fn:l'.fn=l.fn
 known:K.f l.fn
 tmps:VRs F R l.tmps l'.tmps
 params:l'.params=l.params
 assign:l'.assign=l.assign
 body:l'.body=l.body
 kA:K l.assign
 kB:K l.body
 defers:R.rel l.defers l'.defers
structure Jz (F:fI->Bool) (R:Rl) (l l':Loop):Prop where
 state:l'.state=l.state
 pending:l'.pending=l.pending
 fn:l'.fn=l.fn
 tmps:VRs F R l.tmps l'.tmps
 params:l'.params=l.params
 assign:l'.assign=l.assign
 body:l'.body=l.body
 defers:R.rel l.defers l'.defers
structure jZ (F:fI->Bool) (R:Rl) (e e':MapEntry):Prop where
 key:VR F R e.key e'.key
 val:VR F R e.val e'.val
 born:e'.born=e.born
inductive OwR (F:fI->Bool) (K:Kd) (R:Rl):Obj->Obj->Prop
 |map {es es':Array MapEntry} (k:Nat):es.size=es'.size->(∀(i:Nat) (e e':MapEntry),es[i]? =some e->es'[i]? =some e'->jZ F R e e')->OwR F K R (.map es k) (.map es' k)
 |iter (s:ByteArray) (p:Nat):OwR F K R (.stringIter s p) (.stringIter s p)
 |nilMapIter (s:Nat) (q:Array Nat) (l:Nat):OwR F K R (.mapIter none s q l) (.mapIter none s q l)
 |mapIter {m m':Nat} (s:Nat) (q:Array Nat) (l:Nat):R.rel m m'->OwR F K R (.mapIter (some m) s q l) (.mapIter (some m') s q l)
 |loop {l l':Loop}:xE F K R l l'->OwR F K R (.loop l) (.loop l')
 |far {fs:Array (Nat×Deferred)} {ru:Option Nat} {l l':Loop}:K.dec fs ru=some l->Jz F R l l'->OwR F K R (.finalizers fs ru) (.loop l')
 |opened:OwR F K R (.deferred (some [])) (.deferred (some []))
 |shut:OwR F K R (.deferred none) (.deferred none)
inductive OR (F:fI->Bool) (K:Kd) (R:Rl) (b':Nat):Obj->Obj->Prop
 |cells {c c':Array vL} {t:tI} {z z':Nat×Nat}:VRs F R c c'->(R.own b'->z=z')->(¬R.own b'->z=(0,c.size))->OR F K R b' (.cells c t z) (.cells c' t z')
 |number {a a':aD} (l:Bool):AR R a a'->OR F K R b' (.number a l) (.number a' l)
 |owned {o o':Obj}:R.own b'->OwR F K R o o'->OR F K R b' o o'
structure WR (P:pQ) (F:fI->Bool) (K:Kd) (R:Rl) (w u:wD):Prop where
 dom:∀b b',R.rel b b'->b<w.heap.size/\b'<u.heap.size
 fn:∀b b1 b2,R.rel b b1->R.rel b b2->b1=b2
 inj:∀b1 b2 b',R.rel b1 b'->R.rel b2 b'->b1=b2
 objs:∀b b' o,R.rel b b'->w.heap[b]? =some o->∃o',u.heap[b']? =some o'/\OR F K R b' o o'
 glob:∀b b',R.rel b b'->b<P.globals.size\/b'<P.globals.size->b=b'
 tape:w.tape=u.tape
 drawn:w.drawn=u.drawn
 bigW:P.globals.size<=w.heap.size
 bigU:P.globals.size<=u.heap.size
structure Fr (R R':Rl) (u u':wD):Prop where
 size:u.heap.size<=u'.heap.size
 keep:∀b',b'<u.heap.size->¬R.own b'->u'.heap[b']? =u.heap[b']?
 own:∀b',R'.own b'↔R.own b'\/(u.heap.size<=b'/\b'<u'.heap.size)
 new:∀b b',R'.rel b b'->R.rel b b'\/u.heap.size<=b'
 same:u'.tape=u.tape/\u'.os=u.os/\u'.output=u.output
 ch:∀r r',R'.ch r r'->R.ch r r'
def Fr.refl(R:Rl)(u:wD):Fr R R u u:=⟨Nat.le_refl _,λ_ _ _=>rfl,λb'=>⟨.inl,λh=>h.elim id λx=>zP⟩,λ_ _ h=>.inl h,⟨rfl,rfl,rfl⟩,λ_ _ h=>h⟩
theorem Fr.trans{e:Rl}{u' f:wD}(h:Fr R R' u u')(d:Fr R' e u' f):Fr R e u f:=by
 refine⟨Nat.le_trans h.size d.size,λb' m hn=>?_,λb'=>?_,λb b' i=>?_,⟨d.same.1.trans h.same.1,d.same.2.1.trans h.same.2.1,d.same.2.2.trans h.same.2.2⟩,λr r' i=>h.ch _ _ (d.ch _ _ i)⟩
 ·rw[d.keep b' (Nat.lt_of_lt_of_le m h.size) λp=>(h.own b').1 p|>.elim hn (λx=>zP),h.keep b' m hn]
 ·rw[d.own,h.own];have:=h.size;have:=d.size
  grind
 rcases d.new b b' i with x|x
 ·exact h.new b b' x
 exact .inr (Nat.le_trans h.size x)
inductive EvR (R:Rl):Event->Prop
 |cell {b:Nat} {a:aD} (wr:Bool):R.rel b a.block->(wr=true->R.own a.block)->EvR R ⟨.cell a,wr,false⟩
 |obj {b r:Nat}:R.rel b r->EvR R ⟨.obj r,false,false⟩
 |objw {b r:Nat}:R.rel b r->R.own r->EvR R ⟨.obj r,true,false⟩
 |noRoom (x y:Bool):EvR R ⟨.mark .noRoom,x,y⟩
theorem AR.mono(h:R.le R')(x:AR R a a'):AR R' a a':=by cases x with|mk o s hr=>exact .mk o s (h.rel _ _ hr)
theorem VR.mono(h:R.le R')(x:VR F R v v'):VR F R' v v':=by
 induction x with
 |pointer ha=>exact .pointer (ha.mono h)
 |slice n c ha=>exact .slice n c (ha.mono h)
 |chan hr=>exact .chan (h.ch _ _ hr)
 |map hr=>exact .map (h.rel _ _ hr)
 |yield hr=>exact .yield (h.rel _ _ hr)
 |func f hf h1 _ h3 _ ih2 ih4=>exact .func f hf h1 ih2 h3 ih4
 |agg h1 _ ih=>exact .agg h1 ih
 |tuple h1 _ ih=>exact .tuple h1 ih
 |poison hs=>exact .poison hs
 |shut=>exact .shut
 |_=>constructor
theorem VRs.mono(h:R.le R')(x:VRs F R c c'):VRs F R' c c':=⟨x.size,λi v v' a b=>(x.get i v v' a b).mono h⟩
theorem EvR.mono(h:R.le R'){e:Event}(x:EvR R e):EvR R' e:=by
 cases x with
 |cell wr hr ho=>exact .cell wr (h.rel _ _ hr) λx=>h.own _ (ho x)
 |obj hr=>exact .obj (h.rel _ _ hr)
 |objw hr ho=>exact .objw (h.rel _ _ hr) (h.own _ ho)
 |noRoom x y=>exact .noRoom x y
theorem OwR.mono{K:Kd}(h:R.le R')(x:OwR F K R o o'):OwR F K R' o o':=by
 cases x with
 |map k h1 h2=>exact .map k h1 λi e d a b=>let y:=h2 i e d a b;⟨y.key.mono h,y.val.mono h,y.born⟩
 |iter s p=>exact .iter s p
 |nilMapIter s q l=>exact .nilMapIter s q l
 |mapIter s q l hr=>exact .mapIter s q l (h.rel _ _ hr)
 |loop y=>exact .loop ⟨y.state,y.pending,y.kP,y.fn,y.known,y.tmps.mono h,y.params,y.assign,y.body,y.kA,y.kB,h.rel _ _ y.defers⟩
 |far hd y=>exact .far hd ⟨y.state,y.pending,y.fn,y.tmps.mono h,y.params,y.assign,y.body,h.rel _ _ y.defers⟩
 |opened=>exact .opened
 |shut=>exact .shut
theorem OwR.no_cells{K:Kd}(x:OwR F K R o o'):(∀c t z,o≠.cells c t z)/\(∀a t,o≠.view a t)/\(∀a l,o≠.number a l)/\(∀c t,o≠.pending c t)/\(∀c t z,o'≠.cells c t z):=by cases x<;>exact⟨yW,yW,yW,yW,yW⟩
def Sim(P:pQ)(F:fI->Bool)(K:Kd){α α':Type}(A:Rl->α->α'->Prop)(R:Rl)(s:Sem α)(s':Sem α'):Prop:=
 ∀R1,R.le R1->∀w u,WR P F K R1 w u->∀es a p i,s.runT P w es=(.ok a p,i)->∀m,∃d a' u1 f,R1.le d/\s'.runT P u m=(.ok a' u1,f)/\WR P F K d p u1/\A d a a'/\Fr R1 d u u1/\∀e∈f,e∈m\/EvR d e
section
variable {P:pQ} {F:fI->Bool} {K:Kd} {α β α' β':Type} {R:Rl}
theorem runT_bind(s:Sem α)(f:α->Sem β)(w:wD)(es:Array Event):(s >>=f).runT P w es=match s.runT P w es with|(.ok a w1,es1)=>(f a).runT P w1 es1|(.halt h w1,es1)=>(.halt h w1,es1):=by
 show (s.bind f).runT P w es=_
 induction s generalizing w es with
 |pure a=>rfl
 |load m a k ih=>
  simp only[Aev,Adt]
  split<;>grind
 |store m a v k ih=>
  cases v<;>first
  |rfl
  |(simp only[Aev,Adt]
    split
    ·split
     ·rfl
     exact ih _ _
    split
    ·exact ih _ _
    rfl)
 |new o k ih=>exact ih _ _ _
 |shape r k ih=>exact ih _ _ _
 |freeze a n k ih=>exact ih _ _
 |frozen a k ih=>exact ih _ _ _
 |getObj r k ih=>
  simp only[Aev,Adt]
  split<;>first|rfl|exact ih _ _ _
 |setObj r o k ih=>
  simp only[Aev,Adt]
  split<;>first|rfl|exact ih _ _
 |choose q k ih=>
  simp only[Aev,Adt]
  split<;>exact ih _ _ _
 |sys c k ih=>exact ih _ _ _
 |program k ih=>exact ih _ _ _
 |mark m k ih=>exact ih _ _
 |halt x=>rfl
theorem ak{A:Rl->α->α'->Prop}{a:α}{a':α'}(h:∀R1,R.le R1->A R1 a a'):Sim P F K A R (pure a) (pure a'):=by
 intro R1 f w u m es x q d hx p
 cases hx
 exact⟨R1,a',u,p,.refl _,rfl,m,h _ f,.refl _ _,λe i=>.inl i⟩
theorem ah{A:Rl->α->α'->Prop}{B:Rl->β->β'->Prop}{s:Sem α}{s':Sem α'}{f:α->Sem β}{f':α'->Sem β'}(h:Sim P F K A R s s')(S:∀R1,R.le R1->∀a a',A R1 a a'->Sim P F K B R1 (f a) (f' a')):Sim P F K B R (s >>=f) (s' >>=f'):=by
 intro R1 E w u T es b X i d U;rw[runT_bind]at d
 cases G:s.runT P w es with
 |mk r es2=>
  rw[G]at d
  cases r with
  |halt x w2=>cases d
  |ok a w2=>
   obtain⟨D,a',u1,p,H,Y,y,O,M,V⟩:=h R1 E w u T es a w2 es2 G U;obtain⟨L,b',u2,q,J,Z,C,m,N,W⟩:=S D (E.trans H) a a' O D (.refl _) w2 u1 y es2 b X i d p;refine⟨L,b',u2,q,H.trans J,?_,C,m,M.trans N,λe Q=>?_⟩
   ·grind [runT_bind]
   rcases W e Q with x|x
   ·exact(V e x).imp id (·.mono J)
   exact .inr x
def fH{A:Rl->α->α'->Prop}(x:Halt)(s':Sem α'):Sim P F K A R (.halt x:Sem α) s':=by
 intro R1 _ w u _ es a e d h
 cases h
def JA{A B:Rl->α->α'->Prop}{s:Sem α}{s':Sem α'}(h:Sim P F K A R s s')(e:∀R1,R.le R1->∀a a',A R1 a a'->B R1 a a'):Sim P F K B R s s':=by intro R1 m w u G es a L d E H;obtain⟨q,a',u1,f,p,y,i,D,C,J⟩:=h R1 m w u G es a L d E H;exact⟨q,a',u1,f,p,y,i,e _ (m.trans p) _ _ D,C,J⟩
end
section
variable {P:pQ} {F:fI->Bool} {K:Kd} {R:Rl}
def VRs.hit(h:VRs F R c c'){i:Nat}(d:c[i]? =some v):∃v',c'[i]? =some v'/\VR F R v v':=by
 have hlt:=(aS.1 d).1;have e:c'[i]? =some (c'[i]'(h.size▸hlt)):=by grind
 exact⟨_,e,h.get i _ _ d e⟩
theorem VRs.set(h:VRs F R c c')(f:VR F R v v')(i:Nat):VRs F R (c.setIfInBounds i v) (c'.setIfInBounds i v'):=by
 refine⟨by simp[h.size],λk x x' hx d=>?_⟩;rw[Array.getElem?_setIfInBounds]at hx d;by_cases e:i=k
 ·grind
 simp[e]at hx d;exact h.get k _ _ hx d
theorem VRs.push(h:VRs F R c c')(f:VR F R v v'):VRs F R (c.push v) (c'.push v'):=by
 refine⟨by simp[h.size],λk x x' hx d=>?_⟩;rw[Rw]at hx d;rw[<-h.size]at d;by_cases e:k=c.size
 ·grind
 simp[e]at hx d;exact h.get k _ _ hx d
def VRs.nil:VRs F R #[] #[]:=⟨rfl,λi v v' h=>by simp at h⟩
def VRs.one(h:VR F R v v'):VRs F R #[v] #[v']:=(VRs.nil.push h)
theorem VR.cells{v v':vL}(h:VR F R v v'):VRs F R v.cells v'.cells:=by
 cases h with
 |agg h1 h2=>exact⟨h1,h2⟩
 | @poison v' hs=>cases v'<;>first|exact VRs.one (.poison hs)|exact False.elim hs
 |_=>refine VRs.one ?_;constructor<;>assumption
section
variable {w u:wD}
def WR.obj(d:WR P F K R w u){b b':Nat}(h:R.rel b b'):∃o o',w.heap[b]? =some o/\u.heap[b']? =some o'/\OR F K R b' o o':=by
 have hlt:=(d.dom _ _ h).1;obtain⟨o',e,h2⟩:=d.objs b b' _ h (aG hlt)
 grind
theorem WR.mono(h:WR P F K R1 w u):WR P F K R1 w u:=h
end
def JB(h:AR R a a')(m:Mode)(E:m≠.atomic):Sim P F K (λR v v'=>VR F R v v') R (load a m) (load a' m):=by
 intro R1 C w u y es v Q A d M
 cases h with
 | @mk b b' o s hb=>
 have f:=C.rel _ _ hb;obtain⟨O,L,G,H,p⟩:=y.obj f;simp only[load,Adt]at d
 cases p with
 |number l ha=>grind [Aeq,Abm]
 |owned _ hx=>grind [hx.no_cells,Aeq,Abm]
 | @cells c c' t z z' hcs hz hz'=>
  have i:∀x,w.farLoad P ⟨b,o,s⟩ x=.error (w.noCell ⟨b,o,s⟩ "load: no such cell"):=by grind [Abm]
  cases hc:w.cell? ⟨b,o,s⟩with
  |none=>rw[hc]at d;simp only[i]at d;cases d
  |some v0=>
   rw[hc]at d
   cases d
   simp only[Aeq,G]at hc
   split at hc
   ·cases hc
   rename_i N;obtain⟨v',J,q⟩:=hcs.hit hc;refine⟨R1,v',u,M.push ⟨.cell ⟨b',o,s⟩,false,m==.atomic⟩,.refl _,?_,y,q,.refl _ _,λe D=>?_⟩
   ·simp only[load,Adt]
    grind [Aeq]
   rcases Aej.1 D with h|h
   ·exact .inl h
   subst h;have:(m==Mode.atomic)=false:=by cases m<;>first|rfl|exact absurd rfl E
   rw[this];exact .inr (.cell false f λh=>by cases h)
theorem JC{h:Array Obj}{b:Nat}{z:Nat×Nat}{f:Obj->Obj}(d:h[b]? =some (.cells c t z))(n:Nat):(h.modify b f)[n]? =if b=n then some (f (.cells c t z))else h[n]? :=by grind
def UO(h:AR R a a')(S:VR F R v v')(m:Mode)(hm:m≠.atomic):Sim P F K (λ_ _ _=>True) R (store a v m) (store a' v' m):=by
 intro R1 W w u f es x w1 aa p us;have T:=S.mono W;have J:∀(D:wD) (d:Array Event) (a0:aD) (C:vL),(∀c,C≠.agg c)->(∀c,C≠.tuple c)->(store a0 C m).runT P D d=match D.cell? a0 with
  |some _=>if D.frozen? a0 then(.halt (.unsupported (.unsafePointer "a write to bytes that a string shares")) D,d)else(.ok () (D.setCell a0 C),d.push ⟨.cell a0,true,m==.atomic⟩)
  |none=>match D.farStore P a0 C (m==.atomic)with
   |.ok (w1,touched)=>(.ok () w1,d++touched.toArray.map (⟨.cell ·,true,m==.atomic⟩))
   |.error h=>(.halt h D,d):=by
  intro D d a0 C h1 h2
  cases C<;>first|rfl|exact absurd rfl (h1 _)|exact absurd rfl (h2 _)
 by_cases hg:(∃c,v=.agg c)\/∃c,v=.tuple c
 ·rcases hg with⟨c,rfl⟩|⟨c,rfl⟩<;>cases p
 have Y:∀c,v≠.agg c:=by grind
 have M:∀c,v≠.tuple c:=by grind
 have ac:∀c,v'≠.agg c:=λc e=>by
  subst e
  cases S with
  |agg _ _=>exact Y _ rfl
  |poison _=>exact M _ rfl
 have ad:∀c,v'≠.tuple c:=λc e=>by
  subst e
  cases S with
  |tuple _ _=>exact M _ rfl
  |poison _=>exact M _ rfl
 rw[J _ _ _ _ Y M]at p
 cases h with
 | @mk b b' o s hb=>
 have q:=W.rel _ _ hb;obtain⟨ob,ae,G,O,Q⟩:=f.obj q
 cases Q with
 |number l ha=>grind [Aeq,Aba]
 |owned _ hx=>
  have hc:w.cell? ⟨b,o,s⟩=none:=by cases hx<;>simp[Aeq,G]
  rw[hc]at p;have hf:∀x,w.farStore P ⟨b,o,s⟩ v x=.error (w.noCell ⟨b,o,s⟩ "store: no such cell"):=λx=>by cases hx<;>simp[Aba,G]
  grind
 | @cells c c' t z z' hcs hz hz'=>
  have E:∀y,w.farStore P ⟨b,o,s⟩ v y=.error (w.noCell ⟨b,o,s⟩ "store: no such cell"):=λy=>by simp[Aba,G]
  cases hc:w.cell? ⟨b,o,s⟩with
  |none=>rw[hc]at p;simp only[E]at p;cases p
  |some C=>
   rw[hc]at p;simp only at p
   split at p
   ·cases p
   rename_i N
   cases p
   simp only[Aeq,G]at hc
   split at hc
   ·cases hc
   rename_i hs;obtain⟨V,H,_⟩:=hcs.hit hc;have A:R1.own b':=Ad3 λhn=>N (by have hlt:=(aS.1 hc).1;simp[Aem,G,hz' hn,hlt])
   have L:u.cell? ⟨b',o,s⟩=some V:=by simp[Aeq,O,H,hs]
   have X:u.frozen? ⟨b',o,s⟩=false:=by grind [Aem]
   have hW:∀n,(w.setCell ⟨b,o,s⟩ v).heap[n]? =if b=n then some (.cells (c.setIfInBounds o v) t z)else w.heap[n]? :=λn=>by grind [Abn,JC]
   have hU:∀n,(u.setCell ⟨b',o,s⟩ v').heap[n]? =if b'=n then some (.cells (c'.setIfInBounds o v') t z')else u.heap[n]? :=λn=>by grind [Abn,JC]
   have Z:(w.setCell ⟨b,o,s⟩ v).heap.size=w.heap.size:=by simp[Abn]
   have U:(u.setCell ⟨b',o,s⟩ v').heap.size=u.heap.size:=by simp[Abn]
   refine⟨R1,(),u.setCell ⟨b',o,s⟩ v',us.push ⟨.cell ⟨b',o,s⟩,true,m==.atomic⟩,.refl _,?_,⟨λx x' hx=>?_,f.fn,f.inj,λx x' ox hx i=>?_,f.glob,f.tape,f.drawn,by rw[Z];exact f.bigW,by rw[U];exact f.bigU⟩,trivial,⟨by rw[U];exact Nat.le_refl _,λx hx ab=>?_,λx=>?_,λ_ _ h=>.inl h,⟨rfl,rfl,rfl⟩,λ_ _ h=>h⟩,λe he=>?_⟩
   ·grind
   ·rw[Z,U];exact f.dom _ _ hx
   ·rw[hW]at i
    rw[hU];by_cases e:b=x
    ·subst e
     obtain rfl:=f.fn _ _ _ q hx;simp only[if_true,oI]at i⊢;subst i;exact⟨_,rfl,.cells (hcs.set T o) hz λh=>absurd A h⟩
    have e':b'≠x':=λh=>e (f.inj _ _ _ q (h▸hx))
    simp only[e,e',if_false]at i⊢;exact f.objs x x' ox hx i
   ·grind
   ·grind
   rcases Aej.1 he with h|h
   ·exact .inl h
   subst h
   have:(m==Mode.atomic)=false:=by cases m<;>first|rfl|exact absurd rfl hm
   rw[this];exact .inr (.cell true q λ_=>A)
def Rl.put(R:Rl)(n d:Nat):Rl:={rel:=λb b'=>R.rel b b'\/(b=n/\b'=d),ch:=R.ch,own:=λb'=>R.own b'\/b'=d}
def Rl.le_put(R:Rl)(n d:Nat):R.le (R.put n d):=⟨λ_ _ h=>.inl h,λ_ _ h=>h,λ_ h=>.inl h⟩
def zM(d:WR P F K R1 w u)(h:OR F K (R1.put w.heap.size u.heap.size) u.heap.size o o'):
 WR P F K (R1.put w.heap.size u.heap.size) {w with heap:=w.heap.push o} {u with heap:=u.heap.push o'}:=by
 have i:=R1.le_put w.heap.size u.heap.size;refine⟨λb b' e=>?_,λb q s f h2=>?_,λq s b' f h2=>?_,λb b' x e hx=>?_,λb b' e C=>?_,d.tape,d.drawn,by simp;have:=d.bigW;omega,by simp;have:=d.bigU;omega⟩
 ·simp only[Aef]
  rcases e with e|⟨rfl,rfl⟩
  ·have:=d.dom _ _ e;omega
  omega
 ·rcases f with f|⟨rfl,rfl⟩<;>rcases h2 with h2|⟨h2,p⟩
  ·exact d.fn _ _ _ f h2
  ·have:=d.dom _ _ f;omega
  ·have:=d.dom _ _ h2;omega
  exact p.symm
 ·rcases f with f|⟨rfl,rfl⟩<;>rcases h2 with h2|⟨h2,p⟩
  ·exact d.inj _ _ _ f h2
  ·have:=d.dom _ _ f;omega
  ·have:=d.dom _ _ h2;omega
  exact h2.symm
 ·simp only at hx⊢;rw[Rw]at hx⊢
  rcases e with e|⟨rfl,rfl⟩
  ·have D:=d.dom _ _ e;rw[if_neg zP]at hx⊢;obtain⟨x',f,h2⟩:=d.objs b b' x e hx;refine⟨x',f,?_⟩;have m:∀y,(R1.put w.heap.size u.heap.size).own b'->R1.own b'\/y:=λ_ h=>h.elim .inl λh=>absurd h zP
   cases h2 with
   |cells hc hz hz'=>exact .cells (hc.mono i) (λh=>hz ((m False h).elim id False.elim)) (λh=>hz' λA=>h (.inl A))
   |number l ha=>exact .number l (ha.mono i)
   |owned ho hx=>exact .owned (.inl ho) (hx.mono i)
  grind
 rcases e with e|⟨rfl,rfl⟩
 ·exact d.glob _ _ e C
 have:=d.bigW;have:=d.bigU;omega
def zN(n:Nat)(o':Obj):Fr R1 (R1.put n u.heap.size) u {u with heap:=u.heap.push o'}:=by
 refine⟨yW,λb' d _=>?_,λb'=>?_,λb b' h=>?_,⟨rfl,rfl,rfl⟩,λ_ _ h=>h⟩
 ·grind
 ·simp only[Aef];constructor
  ·rintro(h|rfl)
   ·exact .inl h
   grind
  rintro(h|h)
  ·exact .inl h
  exact .inr zP
 rcases h with h|⟨_,rfl⟩
 ·exact .inl h
 grind
def UQ(h:VRs F R c c')(t:tI):Sim P F K (λR n q=>R.rel n q) R (newObj (.cells c t)) (newObj (.cells c' t)):=by
 intro R1 f w u p es x y d m s
 cases m
 exact⟨R1.put w.heap.size u.heap.size,u.heap.size,{u with heap:=u.heap.push (.cells c' t)},s,R1.le_put _ _,rfl,zM p (.cells ((h.mono f).mono (R1.le_put _ _)) (λ_=>rfl) λhn=>absurd (.inr rfl) hn),.inr ⟨rfl,rfl⟩,zN _ _,λe i=>.inl i⟩
def UR(h:AR R a a')(l:Bool):Sim P F K (λR n q=>R.rel n q) R (newObj (.number a l)) (newObj (.number a' l)):=by
 intro R1 f w u p es x y d m s
 cases m
 exact⟨R1.put w.heap.size u.heap.size,u.heap.size,{u with heap:=u.heap.push (.number a' l)},s,R1.le_put _ _,rfl,zM p (.number l ((h.mono f).mono (R1.le_put _ _))),.inr ⟨rfl,rfl⟩,zN _ _,λe i=>.inl i⟩
def DV(h:R.rel r r'):Sim P F K (λ_ x x'=>x=x') R (shape r) (shape r'):=by
 intro R1 p w u i es x C m y A
 cases y
 obtain⟨o,o',s,d,f⟩:=i.obj (p.rel _ _ h);refine⟨R1,u.shape? r',u,A,.refl _,rfl,i,?_,.refl _ _,λe q=>.inl q⟩;unfold Aen;rw[s,d]
 cases f with
 |cells hc _ _=>simp[hc.size]
 |number l _=>rfl
 |owned _ hx=>cases hx<;>rfl
def tC(q:qS):Sim P F K (λ_ x x'=>x=x') R (choose q) (choose q):=by
 intro R1 y w u d es x A s f p;simp only[choose,Adt]at f⊢
 split at f
 ·rename_i m
  cases f
  exact⟨R1,0,u,p,.refl _,by simp[m],d,rfl,.refl _ _,λe i=>.inl i⟩
 rename_i m
 cases f
 refine⟨R1,q.cut (u.tape u.drawn q),{u with drawn:=u.drawn+1},p,.refl _,by simp[m],⟨d.dom,d.fn,d.inj,d.objs,d.glob,d.tape,by simp[d.drawn],d.bigW,d.bigU⟩,by rw[d.tape,d.drawn],⟨Nat.le_refl _,λ_ _ _=>rfl,λb'=>⟨.inl,λh=>h.elim id λx=>by simp only at x;omega⟩,λ_ _ h=>.inl h,⟨rfl,rfl,rfl⟩,λ_ _ h=>h⟩,λe i=>.inl i⟩
def lN:Sim P F K (λ_ x x'=>x=P/\x'=P) R program program:=by
 intro R1 q w u m es x s d i p
 cases i
 exact⟨R1,P,u,p,.refl _,rfl,m,⟨rfl,rfl⟩,.refl _ _,λe f=>.inl f⟩
theorem UU:Sim P F K (λ_ _ _=>True) R (mark .noRoom) (mark .noRoom):=by
 intro R1 q w u m es x s d i p
 cases i
 refine⟨R1,(),u,p.push ⟨.mark .noRoom,false,true⟩,.refl _,rfl,m,trivial,.refl _ _,λe f=>?_⟩
 rcases Aej.1 f with h|h
 ·exact .inl h
 subst h;exact .inr (.noRoom _ _)
def ownB:Obj->Bool
 |.map .. |.stringIter .. |.mapIter .. |.loop _|.deferred _|.finalizers .. =>true
 |_=>false
theorem OwR.ownB(x:OwR F K R o o'):Tp.ownB o=true/\Tp.ownB o'=true:=by cases x<;>exact⟨rfl,rfl⟩
def JD{es:Array Event}(h:w.heap[r]? =some o)(d:ownB o=true):(viewAt r).runT P w es=(.ok none w,es.push ⟨.obj r,false,false⟩):=by
 have e:w.shape? r=none:=by cases o<;>first|(simp[ownB]at d;done)|simp[Aen,h]
 simp only[viewAt,runT_bind,shape,Adt,e,Aex];rw[if_neg yW,runT_bind]
 cases o<;>first|(simp[ownB]at d;done)|(simp only[Adt,h];rfl)
def JE{es:Array Event}(h:w.heap[r]? =some o)(d:ownB o=true):(numberAt r).runT P w es=(.ok none w,es.push ⟨.obj r,false,false⟩):=by
 have e:w.shape? r=none:=by cases o<;>first|(simp[ownB]at d;done)|simp[Aen,h]
 simp only[numberAt,runT_bind,shape,Adt,e,Aex];rw[if_neg yW,runT_bind]
 cases o<;>first|(simp[ownB]at d;done)|(simp only[Adt,h];rfl)
def JF(h:R.rel r r'):Sim P F K (λ_ x x'=>x=none/\x'=none) R (viewAt r) (viewAt r'):=by
 intro R1 p w u m es x C y f A;obtain⟨o,o',q,d,s⟩:=m.obj (p.rel _ _ h)
 cases s with
 | @cells c c' t z z' hc _ _=>
  have e:∀(w:wD) (es:Array Event) (r:Nat) c t z,w.heap[r]? =some (.cells c t z)->(viewAt r).runT P w es=(.ok none w,es):=λw es r c t z h=>by simp only[viewAt,runT_bind,shape,Adt,Aen,h];rfl
  rw[e _ _ _ _ _ _ q]at f
  cases f
  exact⟨R1,none,u,A,.refl _,e _ _ _ _ _ _ d,m,⟨rfl,rfl⟩,.refl _ _,λe i=>.inl i⟩
 | @number a a' l ha=>
  have e:∀(w:wD) (es:Array Event) (r:Nat) a l,w.heap[r]? =some (.number a l)->(viewAt r).runT P w es=(.ok none w,es.push ⟨.obj r,false,false⟩):=λw es r a l h=>by simp only[viewAt,runT_bind,shape,Adt,Aen,h,Aex];rw[if_neg yW,runT_bind];simp only[Adt,h];rfl
  rw[e _ _ _ _ _ q]at f
  cases f
  refine⟨R1,none,u,_,.refl _,e _ _ _ _ _ d,m,⟨rfl,rfl⟩,.refl _ _,λe i=>?_⟩
  rcases Aej.1 i with h2|h2
  ·exact .inl h2
  subst h2;exact .inr (.obj (p.rel _ _ h))
 |owned _ hx=>
  rw[JD q hx.ownB.1]at f
  cases f
  refine⟨R1,none,u,_,.refl _,JD d hx.ownB.2,m,⟨rfl,rfl⟩,.refl _ _,λe i=>?_⟩
  rcases Aej.1 i with h2|h2
  ·exact .inl h2
  subst h2;exact .inr (.obj (p.rel _ _ h))
inductive DW (R:Rl):Option (aD×Bool)->Option (aD×Bool)->Prop
 |none:DW R none none
 |some {a a':aD} (l:Bool):AR R a a'->DW R (some (a,l)) (some (a',l))
def UW(h:R.rel r r'):Sim P F K (λR x x'=>DW R x x') R (numberAt r) (numberAt r'):=by
 intro R1 p w u m es x C y f A;obtain⟨o,o',q,d,s⟩:=m.obj (p.rel _ _ h)
 cases s with
 | @cells c c' t z z' hc _ _=>
  have e:∀(w:wD) (es:Array Event) (r:Nat) c t z,w.heap[r]? =some (.cells c t z)->(numberAt r).runT P w es=(.ok none w,es):=λw es r c t z h=>by simp only[numberAt,runT_bind,shape,Adt,Aen,h];rfl
  rw[e _ _ _ _ _ _ q]at f
  cases f
  exact⟨R1,none,u,A,.refl _,e _ _ _ _ _ _ d,m,.none,.refl _ _,λe i=>.inl i⟩
 | @number a a' l ha=>
  have e:∀(w:wD) (es:Array Event) (r:Nat) a l,w.heap[r]? =some (.number a l)->(numberAt r).runT P w es=(.ok (some (a,l)) w,es.push ⟨.obj r,false,false⟩):=λw es r a l h=>by simp only[numberAt,runT_bind,shape,Adt,Aen,h,Aex];rw[if_neg yW,runT_bind];simp only[Adt,h];rfl
  rw[e _ _ _ _ _ q]at f
  cases f
  refine⟨R1,some (a',l),u,_,.refl _,e _ _ _ _ _ d,m,.some l ha,.refl _ _,λe i=>?_⟩
  rcases Aej.1 i with h2|h2
  ·exact .inl h2
  subst h2;exact .inr (.obj (p.rel _ _ h))
 |owned _ hx=>
  rw[JE q hx.ownB.1]at f
  cases f
  refine⟨R1,none,u,_,.refl _,JE d hx.ownB.2,m,.none,.refl _ _,λe i=>?_⟩
  rcases Aej.1 i with h2|h2
  ·exact .inl h2
  subst h2;exact .inr (.obj (p.rel _ _ h))
def tH(h:∀R1,R.le R1->OwR F K R1 o o'):Sim P F K (λR n d=>R.rel n d/\R.own d) R (newObj o) (newObj o'):=by
 intro R1 i w u q es x y f p s
 cases p
 exact⟨R1.put w.heap.size u.heap.size,u.heap.size,{u with heap:=u.heap.push o'},s,R1.le_put _ _,rfl,zM q (.owned (.inr rfl) (h _ (i.trans (R1.le_put _ _)))),⟨.inr ⟨rfl,rfl⟩,.inr rfl⟩,zN _ _,λe m=>.inl m⟩
def lQ(h:R.rel r r'):Sim P F K (λR o o'=>(OwR F K R o o'/\R.own r')\/∃a a' l,o=.number a l/\o'=.number a' l/\AR R a a') R (Aex r) (Aex r'):=by
 intro R1 i w u q es x D A f s;obtain⟨o,o',C,d,p⟩:=q.obj (i.rel _ _ h);simp only[Aex,Adt,C]at f
 cases p with
 | @cells c c' t z z' hc _ _=>cases f
 | @number a a' l ha=>
  cases f
  refine⟨R1,.number a' l,u,s.push ⟨.obj r',false,false⟩,.refl _,by simp only[Aex,Adt,d];rfl,q,.inr ⟨_,_,_,rfl,rfl,ha⟩,.refl _ _,λe m=>?_⟩
  rcases Aej.1 m with h2|h2
  ·exact .inl h2
  subst h2;exact .inr (.obj (i.rel _ _ h))
 |owned hown hx=>
  have y:x=o/\D=w:=by cases hx<;>(cases f;exact⟨rfl,rfl⟩)
  obtain⟨rfl,rfl⟩:=y;refine⟨R1,o',u,s.push ⟨.obj r',false,false⟩,.refl _,?_,q,.inl ⟨hx,hown⟩,.refl _ _,λe m=>?_⟩
  ·cases hx<;>(simp only[Aex,Adt,d];rfl)
  rcases Aej.1 m with h2|h2
  ·exact .inl h2
  subst h2;exact .inr (.obj (i.rel _ _ h))
theorem lT(h:R.rel r r')(G:R.own r')(hx:OwR F K R o o'):Sim P F K (λ_ _ _=>True) R (setObj r o) (setObj r' o'):=by
 intro R1 N w u d es x w1 V L us;have i:=N.rel _ _ h;have E:=N.own _ G;obtain⟨q,q',Q,H,O⟩:=d.obj i;have p:∀(J:wD) (s:Array Event) (n:Nat) (M S:Obj),J.heap[n]? =some S->(∀c t z,S≠.cells c t z)->M.isChan=false->(setObj n M).runT P J s=(.ok () {J with heap:=J.heap.setIfInBounds n M},s.push ⟨.obj n,true,false⟩):=by
  intro J s n M S W h2 h3;simp only[setObj,Adt,W]
  grind
 have A:o.isChan=false/\o'.isChan=false:=by cases hx<;>exact⟨rfl,rfl⟩
 have D:(∀c t z,q≠.cells c t z)/\∀c t z,q'≠.cells c t z:=by
  cases O with
  |cells _ _ _=>simp only[setObj,Adt,Q]at L;cases L
  |number _ _=>exact⟨yW,yW⟩
  |owned _ m=>exact⟨m.no_cells.1,m.no_cells.2.2.2.2⟩
 rw[p _ _ _ _ _ Q D.1 A.1]at L
 cases L
 have hlt:=(aS.1 Q).1;have C:=(aS.1 H).1;refine⟨R1,(),{u with heap:=u.heap.setIfInBounds r' o'},us.push ⟨.obj r',true,false⟩,.refl _,p _ _ _ _ _ H D.2 A.2,⟨λy T m=>by simpa using d.dom _ _ m,d.fn,d.inj,λy T Z m f=>?_,d.glob,d.tape,d.drawn,by simpa using d.bigW,by simpa using d.bigU⟩,trivial,⟨yW,λb' hb Y=>?_,λb'=>?_,λ_ _ h=>.inl h,⟨rfl,rfl,rfl⟩,λ_ _ h=>h⟩,λe X=>?_⟩
 ·simp only at f⊢;by_cases e:r=y
  ·subst e;obtain rfl:=d.fn _ _ _ i m;rw[Ad0 hlt,oI]at f;subst f;exact⟨o',by rw[Ad0 C],.owned E (hx.mono N)⟩
  have U:r'≠T:=λh=>e (d.inj _ _ _ i (h▸m));rw[Ad2 e]at f;rw[Ad2 U];exact d.objs y T Z m f
 ·grind
 ·grind
 rcases Aej.1 X with h2|h2
 ·exact .inl h2
 subst h2;exact .inr (.objw i E)
end
def fJ(P:pQ){α:Type}(s:Sem α):Prop:=∀w es a e d,s.runT P w es≠(.ok a e,d)
def mG(P:pQ)(F:fI->Bool)(t:tI):Prop:=∀i z,P.info? t=some i->i.zero=some z->∀R,VR F R z z
section
variable {P:pQ} {F:fI->Bool} {K:Kd} {R:Rl} {α β α' β':Type}
theorem ay{A:Rl->α->α'->Prop}{s:Sem α}(h:fJ P s)(s':Sem α'):Sim P F K A R s s':=λ_ _ w _ _ es a f d e _=>absurd e (h w es a f d)
def au(x:Halt):fJ P (.halt x:Sem α):=λw es a e d h=>by cases h
theorem pU{s:Sem β}{f:β->Sem α}(h:∀b,fJ P (f b)):fJ P (s >>=f):=λw es a i e d=>by
 rw[runT_bind]at d
 split at d
 ·exact h _ _ _ _ _ _ d
 cases d
theorem jf(e:RuntimeError):fJ P (Ab6 e:Sem α):=by
 unfold Ab6;refine pU λp=>?_
 (repeat' first
  |exact au _
  |(refine pU λ_=>?_)
  |split
  |dsimp only)
theorem xF(k:IntKind)(x y:Int)(c:BoundsCode):fJ P (Aco k x y c:Sem α):=by
 unfold Aco
 (repeat' first
  |exact au _
  |exact jf _
  |(refine pU λ_=>?_)
  |split
  |dsimp only)
abbrev Same(P:pQ)(F:fI->Bool)(K:Kd)(R:Rl)(s:Sem α):Prop:=Sim P F K (λ_ a a'=>a=a') R s s
def rD(t:tI):Sim P F K (λ_ a a'=>a=a'/\P.info? t=some a) R (typeInfo t) (typeInfo t):=by
 unfold typeInfo;refine ah lN λR1 _ p e d=>?_;rw[d.1,d.2]
 cases h:P.info? t with
 |none=>exact fH _ _
 |some i=>exact ak λ_ _=>⟨rfl,rfl⟩
def bV(t:tI):Sim P F K (λ_ a a'=>a=a'/\P.underlying t=some a) R (underlying t) (underlying t):=by
 unfold underlying;refine ah lN λR1 _ p e d=>?_;rw[d.1,d.2]
 cases h:P.underlying t with
 |none=>exact fH _ _
 |some i=>exact ak λ_ _=>⟨rfl,rfl⟩
def tJ(f:mG P F t):Sim P F K (λR v v'=>VR F R v v'/\v=v') R (zeroValue t) (zeroValue t):=by
 unfold zeroValue;refine ah (rD t) λR1 _ i m d=>?_;obtain⟨rfl,d⟩:=d
 cases h:i.zero with
 |none=>exact fH _ _
 |some z=>exact ak λe _=>⟨f i z d h e,rfl⟩
def jG(t:tI):Same P F K R (sizeOf t):=by
 unfold sizeOf;refine ah (rD t) λR1 _ i e d=>?_
 grind [ak]
def JG(t:tI):Same P F K R (isAgg t):=by
 unfold isAgg;refine ah (bV t) λR1 _ i e d=>?_
 grind [ak]
theorem AR.add(h:AR R a a')(n:Nat):AR R (a.add n) (a'.add n):=by
 cases h with
 | @mk b b' o s hb=>
  unfold Addr.add
  split<;>exact .mk _ _ hb
theorem JH{a a':aD}(h:AR R a a'):∀(n i:Nat) (R':Rl),R.le R'->∀{c c':Array vL},VRs F R' c c'->Sim P F K (λR v v'=>VRs F R v v') R' (loadCellsFrom a i n c) (loadCellsFrom a' i n c')
 |0,_,R',_,_,_,hc=>ak λ_ d=>hc.mono d
 |n+1,i,R',hR,c,c',hc=>by unfold loadCellsFrom;refine ah (JB ((h.mono hR).add i) .plain zE) λR1 d v v' e=>?_;exact JH h n (i+1) R1 (hR.trans d) ((hc.mono d).push e)
def DX(h:AR R a a')(n:Nat):Sim P F K (λR v v'=>VRs F R v v') R (loadCells a n) (loadCells a' n):=
 JH h n 0 R (.refl _) .nil
inductive VRl (F:fI->Bool) (R:Rl):List vL->List vL->Prop
 |nil:VRl F R [] []
 |cons {v v':vL} {l l':List vL}:VR F R v v'->VRl F R l l'->VRl F R (v::l) (v'::l')
theorem VRl.mono(h:R.le R')(x:VRl F R l l'):VRl F R' l l':=by
 induction x with
 |nil=>exact .nil
 |cons hv _ ih=>exact .cons (hv.mono h) ih
theorem VRl.of:∀{l l':List vL},l.length=l'.length->(∀(i:Nat) (v v':vL),l[i]? =some v->l'[i]? =some v'->VR F R v v')->VRl F R l l'
 |[],[],_,_=>.nil
 |[],_::_,h,_=>by cases h
 |_::_,[],h,_=>by cases h
 |v::l,v'::l',h,hg=>.cons (hg 0 _ _ rfl rfl) (VRl.of (by grind) λi x x' d h2=>hg (i+1) x x' (by grind) (by grind))
theorem VRs.toList(h:VRs F R c c'):VRl F R c.toList c'.toList:=
 VRl.of (by simpa using h.size) λi v v' d h2=>h.get i v v' (by grind) (by grind)
theorem zO{a a':aD}(h:AR R a a'):∀(l l':List vL) (i:Nat) (R':Rl),R.le R'->VRl F R' l l'->Sim P F K (λ_ _ _=>True) R' (storeCells a l i) (storeCells a' l' i)
 |_,_,_,_,_,.nil=>ak λ_ _=>trivial
 |_,_,i,R',hR,.cons hv hl=>by unfold storeCells;refine ah (UO ((h.mono hR).add i) hv .plain zE) λR1 d _ _ _=>?_;exact zO h _ _ (i+1) R1 (hR.trans d) (hl.mono d)
def zQ(h:VR F R v v'):Sim P F K (λR x x'=>AR R x x') R (Abb v) (Abb v'):=by
 cases h with
 |pointer ha=>exact ak λ_ d=>ha.mono d
 |_=>exact fH _ _
def UY(h:AR R a a'):Sim P F K (λ_ _ _=>True) R (noView a) (noView a'):=by
 cases h with
 | @mk b b' o s hb=>
 unfold noView;refine ah (JF hb) λR1 _ x x' hx=>?_
 grind [ak]
def tN(h:AR R a a'):Sim P F K (λ_ x x'=>x=x') R (byteOf a) (byteOf a'):=by
 have i:=h
 cases h with
 | @mk b b' o s hb=>
 unfold byteOf
 cases s with
 |some n=>exact ak λ_ _=>rfl
 |none=>
  dsimp only;refine ah lN λR1 d p D f=>?_;rw[f.1,f.2];refine ah (UY (i.mono d)) λq h2 _ _ _=>?_;refine ah (DV ((d.trans h2).rel _ _ hb)) λA C x x' hx=>?_;obtain rfl:=hx
  cases x with
  |none=>exact fH _ _
  |some y=>
   obtain⟨e,m⟩:=y;dsimp only
   split
   ·grind [ak]
   split
   ·grind [ak]
   exact fH _ _
def UZ(h:AR R a a')(n m:Nat):Sim P F K (λR x x'=>AR R x x') R (partAt a n m) (partAt a' n m):=by
 have f:=h
 cases h with
 | @mk b b' o s hb=>
 unfold partAt;refine ah (tN f) λR1 d x x' hx=>?_;obtain rfl:=hx;refine ah (tN (.mk (o+n) none (d.rel _ _ hb))) λp h2 y A i=>?_;obtain rfl:=i;refine ak λq e=>?_;have:=(d.trans (h2.trans e)).rel _ _ hb
 split<;>exact .mk _ _ this
def U0(h:AR R a a')(f:Field):Sim P F K (λR x x'=>AR R x x') R (fieldPlace a f) (fieldPlace a' f):=by
 unfold fieldPlace;refine ah (jG f.type) λR1 d n i hn=>?_;obtain rfl:=hn
 split
 ·exact UZ (h.mono d) _ _
 exact ak λe h2=>((h.mono d).mono h2).add _
def U2(h:VR F R v v')(t:tI)(i:Nat):Sim P F K (λR v v'=>VR F R v v') R (Abq t v i) (Abq t v' i):=by
 unfold Abq;refine ah (bV t) λR1 e d y m=>?_;obtain⟨rfl,_⟩:=m
 split
 ·split
  ·refine ah (zQ (h.mono e)) λq h2 a a' f=>?_;refine ah (U0 f _) λs A x x' hx=>?_;exact ak λ_ p=>.pointer (hx.mono p)
  exact fH _ _
 exact fH _ _
def JI(h:AR R a a')(t:tI):Sim P F K (λR v v'=>VR F R v v') R (loadVar t a) (loadVar t a'):=by
 unfold loadVar;refine ah (JG t) λR1 d b b' e=>?_;obtain rfl:=e
 split
 ·refine ah (jG t) λf h2 n q hn=>?_;obtain rfl:=hn;refine ah (DX (h.mono (d.trans h2)) n) λi p c c' hc=>?_;exact ak λm h4=>.agg (hc.mono h4).size (hc.mono h4).get
 exact JB (h.mono d) .plain zE
def U3(h:AR R a a')(e:VR F R v v')(t:tI):Sim P F K (λ_ _ _=>True) R (storeVar t a v) (storeVar t a' v'):=by
 unfold storeVar;refine ah (jG t) λR1 d n f hn=>?_;obtain rfl:=hn;rw[<-e.cells.size]
 split
 ·exact fH _ _
 exact zO (h.mono d) _ _ 0 R1 (.refl _) (e.cells.mono d).toList
def zS(h:VRs F R c c')(t:tI):Sim P F K (λR a a'=>AR R a a') R (newRow t c) (newRow t c'):=by unfold newRow;refine ah (UQ h t) λR1 e n f hn=>?_;exact ak λd h2=>.mk 0 none (h2.rel _ _ hn)
def JJ(h:VR F R v v')(t:tI):Sim P F K (λR a a'=>AR R a a') R (newVar t v) (newVar t v'):=zS h.cells t
def zT(h:VR F R v v'):Sim P F K (λ_ x x'=>x=x'/\v=.int x.1 x.2/\v'=.int x.1 x.2) R (asIntOf v) (asIntOf v'):=by
 cases h with
 |int k n=>exact ak λ_ _=>⟨rfl,rfl,rfl⟩
 |_=>exact fH _ _
def zU(h:VR F R v v'):Sim P F K (λ_ x x'=>x=x') R (asInt v) (asInt v'):=by
 unfold asInt;refine ah (zT h) λR1 _ x x' hx=>?_
 grind [ak]
def DY(h:VR F R v v'):Sim P F K (λ_ x x'=>x=x') R (asBool v) (asBool v'):=by
 cases h with
 |bool b=>exact ak λ_ _=>rfl
 |_=>exact fH _ _
def U4(h:VR F R v v'):Sim P F K (λR x x'=>AR R x x') R (asAddr v) (asAddr v'):=by
 cases h with
 |pointer ha=>exact ak λ_ d=>ha.mono d
 |nilPointer=>
  show Sim P F K _ R (Ab6 .nilDeref:Sem aD) (Ab6 .nilDeref:Sem aD)
  grind [ay,jf]
 |_=>exact fH _ _
def U5(h:VR F R v v')(t:tI):Sim P F K (λR v v'=>VR F R v v') R (Ab9 t v) (Ab9 t v'):=
 ah (zQ h) λ_ _ _ _ d=>JI d t
def U6(h:VR F R v v')(hx:VR F R x x')(t:tI):Sim P F K (λ_ _ _=>True) R (Abp t v x) (Abp t v' x'):=
 ah (zQ h) λ_ e _ _ d=>U3 d (hx.mono e) t
def U7(h:VR F R v v')(t:tI):Sim P F K (λR v v'=>VR F R v v') R (Instr.box t v) (Instr.box t v'):=
 ah (JJ h t) λ_ _ _ _ d=>ak λ_ e=>.pointer (d.mono e)
def U8(i:mG P F t):Sim P F K (λR v v'=>VR F R v v') R (Instr.alloc t true (.tuple #[])) (Instr.alloc t true (.tuple #[])):=
 ah (tJ i) λ_ _ _ _ f=>ah (JJ f.1 t) λ_ _ _ _ d=>ak λ_ e=>.pointer (d.mono e)
def U9(h:VR F R v v')(i:Nat):Sim P F K (λR v v'=>VR F R v v') R (Abu v i) (Abu v' i):=by
 cases h with
 | @tuple c c' h1 h2=>
  unfold Abu;dsimp only
  cases e:c[i]? with
  |none=>exact fH _ _
  |some x=>obtain⟨x',d,hx⟩:=VRs.hit ⟨h1,h2⟩ e;rw[d];exact ak λ_ f=>hx.mono f
 |_=>exact fH _ _
def Va(f:fI)(i:F f=true){a a':Array vL}(e:VRs F R a a')(hc:VRs F R c c'):Sim P F K (λR v v'=>VR F R v v') R (Abd (.func f) a c) (Abd (.func f) a' c'):=
 ak λ_ d=>.func f i (e.mono d).size (e.mono d).get (hc.mono d).size (hc.mono d).get
def Vb(h:VR F R v v')(hx:VR F R x x')(t:tI):Sim P F K (λR v v'=>VR F R v v') R (Abr t v x) (Abr t v' x'):=by
 unfold Abr;refine ah (zT hx) λR1 H O Q L=>?_;obtain⟨rfl,_,_⟩:=L;obtain⟨k,i⟩:=O;refine ah (bV t) λA h2 d U J=>?_;obtain⟨rfl,_⟩:=J;have m:∀(s:Rl),A.le s->∀(o o':Option aD) (f:Nat) (e:tI),(o=none/\o'=none\/∃a a',o=some a/\o'=some a'/\AR s a a')->
  Sim P F K (λR v v'=>VR F R v v') s
   (do
    let p:=f<=1&&(match <-underlying t with|.array .. =>true|_=>false)
    match o with
    |some a=>
     if 0<=i/\i<f then pure (.pointer (some (a.add (i.toNat*(<-sizeOf e)))))
     else if p then Acl (.noEntry "op/indexAddr.an index out of range at an array of length 0 or 1 (ledger 616)")
     else Aco k i f .index
    |none=>Aco k i 0 .index)
   (do
    let p:=f<=1&&(match <-underlying t with|.array .. =>true|_=>false)
    match o' with
    |some a=>
     if 0<=i/\i<f then pure (.pointer (some (a.add (i.toNat*(<-sizeOf e)))))
     else if p then Acl (.noEntry "op/indexAddr.an index out of range at an array of length 0 or 1 (ledger 616)")
     else Aco k i f .index
    |none=>Aco k i 0 .index):=by
  intro s E o o' f e N;refine ah (bV t) λS h4 V G C=>?_;obtain⟨rfl,_⟩:=C
  rcases N with⟨rfl,rfl⟩|⟨a,a',rfl,rfl,y⟩
  ·grind [ay,xF]
  dsimp only
  by_cases q:0<=i/\i<(f:Int)
  ·rw[if_pos q,if_pos q]
   refine ah (jG e) λT h5 n W hn=>?_;obtain rfl:=hn;exact ak λ_ M=>.pointer ((((y.mono h4).mono h5).mono M).add _)
  rw[if_neg q]
  refine ay ?_ _
  (repeat' split)<;>first|exact au _|exact xF _ _ _ _
 have D:=(h.mono H).mono h2
 cases d with
 |array f e=>refine ah (zQ D) λs E a a' y=>?_;exact m s E (some a) (some a') f e (.inr ⟨a,a',rfl,rfl,y⟩)
 |slice e=>
  cases D with
  |nilSlice n c=>exact m A (.refl _) none none n e (.inl ⟨rfl,rfl⟩)
  | @slice a a' n c y=>exact m A (.refl _) (some a) (some a') n e (.inr ⟨a,a',rfl,rfl,y⟩)
  |_=>exact ay (au _) _
 |_=>exact ay (au _) _
end
section
variable {P:pQ} {F:fI->Bool} {K:Kd} {R:Rl}
inductive PRl (F:fI->Bool) (R:Rl):List (Nat×vL)->List (Nat×vL)->Prop
 |nil:PRl F R [] []
 |cons (i:Nat) {v v':vL} {l l':List (Nat×vL)}:VR F R v v'->PRl F R l l'->PRl F R ((i,v)::l) ((i,v')::l')
theorem PRl.mono(h:R.le R'){l l':List (Nat×vL)}(x:PRl F R l l'):PRl F R' l l':=by
 induction x with
 |nil=>exact .nil
 |cons i hv _ ih=>exact .cons i (hv.mono h) ih
def Vd(f:VRl F R l l')(d:Nat):∀(n:Nat) {c c':Array vL},VRs F R c c'->
 VRs F R ((l.zipIdx n).foldl (λe x=>e.setIfInBounds (d+x.2) x.1) c) ((l'.zipIdx n).foldl (λe x=>e.setIfInBounds (d+x.2) x.1) c'):=by
 induction f with
 |nil=>exact λn c c' h=>h
 |cons hv _ ih=>intro n c c' h;simp only[List.zipIdx_cons,Aeh];exact ih (n+1) (h.set hv _)
def Ve(f:VR F R v v')(d:Nat)(h:VRs F R c c'):
 VRs F R (v.cells.zipIdx.foldl (λe (c,j)=>e.setIfInBounds (d+j) c) c) (v'.cells.zipIdx.foldl (λe (c,j)=>e.setIfInBounds (d+j) c) c'):=by
 have:=Vd f.cells.toList d 0 h
 grind [Array.toList_zipIdx]
def DZ(e:Nat->Option (Nat×Nat)){l l':List (Nat×vL)}(q:PRl F R l l'):∀{c c':Array vL},VRs F R c c'->
 (Aet e c l=none)\/∃d m,Aet e c l=some d/\Aet e c' l'=some m/\VRs F R d m:=by
 induction q with
 |nil=>exact λh=>.inr ⟨_,_,rfl,rfl,h⟩
 |cons i hv _ ih=>
  intro c c' h;unfold Aet
  cases e i with
  |none=>exact .inl rfl
  |some x=>
   obtain⟨f,p⟩:=x;dsimp only;rw[<-hv.cells.size,<-h.size]
   split
   ·grind
   exact ih (Ve hv f h)
def Vf(l:List Field):Sim P F K (λ_ x x'=>x=x') R (l.mapM λf=>do pure (f.offset,<-sizeOf f.type)) (l.mapM λf=>do pure (f.offset,<-sizeOf f.type)):=by
 induction l generalizing R with
 |nil=>exact ak λ_ _=>rfl
 |cons f l ih=>
  rw[Aek];refine ah (A:=λ_ x x'=>x=x') ?_ λR1 d x x' hx=>?_
  ·refine ah (jG f.type) λR1 d n m hn=>?_
   grind [ak]
  obtain rfl:=hx;refine ah ih λe h2 y p i=>?_
  grind [ak]
def Vg(N:mG P F t){a a':Array (Nat×vL)}(J:PRl F R a.toList a'.toList):Sim P F K (λR v v'=>VR F R v v') R (Acy t a) (Acy t a'):=by
 unfold Acy;refine ah (tJ N) λR1 H z U D=>?_;obtain⟨s,rfl⟩:=D;refine ah (bV t) λS h2 d G L=>?_;obtain⟨rfl,_⟩:=L
 cases d with
 |struct fields=>
  dsimp only;refine ah (A:=λ_ x x'=>x=x') ?_ λE p O Q C=>?_
  ·rw[Ad4];refine ah (Vf fields.toList) λE p x x' hx=>?_;obtain rfl:=hx;exact ak λ_ _=>rfl
  obtain rfl:=C
  rcases DZ (λx=>O[x]?) (((J.mono H).mono h2).mono p) (((s.mono h2).mono p).cells)with e|⟨d,G,e,y,f⟩
  ·simp only[e];exact ay (au _) _
  simp only[e,y];exact ak λ_ q=>.agg (f.mono q).size (f.mono q).get
 |array n elem=>
  dsimp only;refine ah (jG elem) λE p m T M=>?_;obtain rfl:=M
  rcases DZ (λi=>some (i*m,m)) (((J.mono H).mono h2).mono p) (((s.mono h2).mono p).cells)with e|⟨d,G,e,y,f⟩
  ·simp only[e];exact ay (au _) _
  simp only[e,y];exact ak λ_ q=>.agg (f.mono q).size (f.mono q).get
 |_=>exact ay (au _) _
def Vh(i:(∃e,P.underlying t=some (.slice e))\/(∃n e,P.underlying t=some (.array n e))\/P.underlying t=some .string)(m:Array tI)(p:m[0]? =some t)(u:tI)(h:VR F R v v'):Sim P F K (λR v v'=>VR F R v v') R (Acf m u #[v]) (Acf m u #[v']):=by
 unfold Acf;simp only[p,Ad8,Ad5];refine ah (bV t) λR1 y d q f=>?_;obtain⟨rfl,f⟩:=f
 rcases i with⟨e,i⟩|⟨n,e,i⟩|i
 ·rw[i]at f
  cases f
  cases h with
  |nilSlice n c=>exact ak λ_ _=>.int _ _
  |slice n c _=>exact ak λ_ _=>.int _ _
  |_=>exact ay (au _) _
 ·rw[i]at f
  cases f
  exact ak λ_ _=>.int _ _
 rw[i]at f
 cases f
 cases h with
 |string s=>exact ak λ_ _=>.int _ _
 |_=>exact ay (au _) _
def mJ(o:BinOp)(x y:ByteArray):Sim P F K (λR v v'=>VR F R v v') R (Ac5 o x y) (Ac5 o x y):=by
 unfold Ac5;dsimp only
 split<;>first
  |exact ak λ_ _=>.bool _
  |exact fH _ _
  |(split<;>first|exact fH _ _|exact ak λ_ _=>.string _)
def Vj(h:VR F R v v')(hx:VR F R x x'):Sim P F K (λR v v'=>VR F R v v') R (Aci v x) (Aci v' x'):=by
 cases h with
 |int k n=>
  cases hx with
  |int k' m=>exact ak λ_ _=>.int _ _
  |_=>exact ay (au _) _
 |float k n=>
  cases hx with
  |float k' m=>
   unfold Aci;dsimp only
   split
   ·refine ah (tC _) λR1 _ y f d=>?_;obtain rfl:=d;exact ak λ_ _=>.float _ _
   ·exact ak λ_ _=>.float _ _
   ·exact ak λ_ _=>.float _ _
   exact ak λ_ _=>.float _ _
  |_=>exact ay (au _) _
 |string s=>
  cases hx with
  |string s'=>unfold Aci;dsimp only;refine ah (mJ _ _ _) λR1 _ y f d=>?_;refine ah (DY d) λi _ b b' e=>?_;obtain rfl:=e;exact ak λ_ _=>.string _
  |_=>exact ay (au _) _
 |pointer _=>exact ay (au _) _
 |_=>cases hx<;>exact ay (au _) _
end
section
variable {P:pQ} {F:fI->Bool} {K:Kd} {R:Rl}
def D5(o:BinOp)(k:IntKind)(x y:Int):Sim P F K (λR v v'=>VR F R v v') R (Ac4 o k x y) (Ac4 o k x y):=by
 unfold Ac4
 split<;>first|exact ak λ_ _=>.int _ _|exact fH _ _
def xG(o:BinOp)(x y:Int):Sim P F K (λR v v'=>VR F R v v') R (Adr o x y) (Adr o x y):=by
 unfold Adr
 split<;>first|exact ak λ_ _=>.bool _|exact fH _ _
def tV(h:VRs F R c c')(t:tI)(o:Nat):Sim P F K (λR v v'=>VR F R v v') R (part t c o) (part t c' o):=by
 unfold part;refine ah (JG t) λR1 m b b' y=>?_;obtain rfl:=y
 split
 ·refine ah (jG t) λD h2 n E hn=>?_;obtain rfl:=hn;refine ak λp s=>?_;have C:=((h.mono m).mono h2).mono s;have hx:VRs F p (c.extract o (o+n)) (c'.extract o (o+n)):=by
   refine⟨by simp[h.size],λi v v' f d=>?_⟩;rw[Array.getElem?_extract]at f d;rw[<-h.size]at d
   split at f
   ·rename_i hlt;rw[if_pos hlt]at d;exact C.get _ _ _ f d
   cases f
  exact .agg hx.size hx.get
 cases e:c[o]? with
 |none=>exact ay (au _) _
 |some x=>obtain⟨x',q,hx⟩:=h.hit e;rw[q];exact ak λ_ A=>(hx.mono m).mono A
def pV(h:AR R a a'):Sim P F K (λR x x'=>AR R x.1 x'.1/\x.2=x'.2) R (behindNumber a) (behindNumber a'):=by
 have f:=h
 cases h with
 | @mk b b' o s hb=>
 unfold behindNumber;refine ah (UW hb) λR1 e x x' hx=>?_
 cases hx with
 |none=>exact ak λ_ d=>⟨(f.mono e).mono d,rfl⟩
 |some l hr=>exact ak λ_ d=>⟨hr.mono d,rfl⟩
theorem Vk(h:AR R a a')(l:Bool):Sim P F K (λR v v'=>VR F R v v') R (asNumber a l) (asNumber a' l):=by unfold asNumber;refine ah (UR h l) λR1 _ n e hn=>?_;exact ak λ_ d=>.pointer (.mk 0 none (d.rel _ _ hn))
def JK(D:Array tI)(t:tI)(h:VR F R v v')(hx:VR F R x x'):Sim P F K (λR v v'=>∃a a',v=.pointer (some a)/\v'=.pointer (some a')/\AR R a a') R (x8 D t #[v,x]) (x8 D t #[v',x']):=by
 have M:=h
 cases h with
 |nilPointer=>
  show Sim P F K (λR (v v':vL)=>∃a a',v=.pointer (some a)/\v'=.pointer (some a')/\AR R a a') R (asInt x >>=_) (asInt x' >>=_)
  refine ah (zU hx) λR1 m n H hn=>?_;refine ay ?_ _;dsimp only
  (repeat' first|exact au _|split)
 | @pointer a a' ha=>
  show Sim P F K (λR (v v':vL)=>∃a a',v=.pointer (some a)/\v'=.pointer (some a')/\AR R a a') R (asInt x >>=_) (asInt x' >>=_)
  refine ah (zU hx) λR1 m n H hn=>?_;obtain rfl:=hn;have q:=ha.mono m
  cases ha with
  | @mk b b' o s hb=>
  have d:=m.rel _ _ hb;dsimp only
  split
  ·refine ah (JF d) λE h2 y J f=>?_;rw[f.1,f.2];exact ak λ_ A=>⟨_,_,rfl,rfl,(q.mono h2).mono A⟩
  split
  ·exact ay (au _) _
  refine ah (DV d) λE h2 y J f=>?_;obtain rfl:=f
  cases y with
  |none=>exact ay (au _) _
  |some ec=>
   obtain⟨e,i⟩:=ec;dsimp only;refine ah lN λL G p N C=>?_;rw[C.1,C.2]
   split
   ·exact ak λ_ A=>⟨_,_,rfl,rfl,.mk _ _ (A.rel _ _ (G.rel _ _ (h2.rel _ _ d)))⟩
   exact ay (au _) _
 |_=>exact ay (au _) _
def xH(t:tI)(h:VR F R v v')(hx:VR F R x x'):Sim P F K (λR v v'=>VR F R v v') R (movedNumber t v x) (movedNumber t v' x'):=by
 unfold movedNumber;refine ah (bV t) λR1 f d L D=>?_;obtain⟨rfl,_⟩:=D;dsimp only
 split
 ·exact ay (au _) _
 have m:=h.mono f;have e:=hx.mono f
 cases h with
 | @pointer a a' i=>
  refine ah (pV (i.mono f)) λH h2 y G E=>?_;obtain⟨z,l⟩:=y;obtain⟨Q,l'⟩:=G;obtain⟨s,p⟩:=E;simp only at s p;subst p;refine ah (JK _ _ (.pointer s) (e.mono h2)) λJ M q O N=>?_
  grind [Vk]
 |poison hs=>exact ay (au _) _
 |_=>exact JA (JK #[] t m e) λ_ _ v v' ⟨_,_,A,C,i⟩=>by subst A C;exact .pointer i
def JL(h:AR R a a')(hx:AR R b b')(D:∀R1,R.le R1->∀w u,WR P F K R1 w u->(a.block=b.block↔a'.block=b'.block)/\(a.block<P.globals.size↔a'.block<P.globals.size)):
 Sim P F K (λ_ x x'=>x=x') R (Acd a b) (Acd a' b'):=by
 intro R1 e w u s;obtain⟨M,h2⟩:=D R1 e w u s;have m:Sim P F K (λ_ x x'=>x=x') R1 (Acd a b) (Acd a' b'):=by
  unfold Acd;refine ah lN λH d p N q=>?_;rw[q.1,q.2];have A:(a.block !=b.block)=(a'.block !=b'.block):=by grind
  have C:decide (a.block≥P.globals.size)=decide (a'.block≥P.globals.size):=by grind
  rw[A,C]
  split
  ·exact ay (au _) _
  refine ah (tN ((h.mono e).mono d)) λJ f x x' i=>?_;obtain rfl:=i;refine ah (tN (((hx.mono e).mono d).mono f)) λL E y O G=>?_
  grind [ak]
 exact m R1 (.refl _) w u s
def D6(h:AR R a a')(hx:AR R b b'):∀R1,R.le R1->∀w u,WR P F K R1 w u->(a.block=b.block↔a'.block=b'.block)/\(a.block<P.globals.size↔a'.block<P.globals.size):=by
 intro R1 i w u f
 cases h with
 | @mk n n' o s hn=>
 cases hx with
 | @mk m m' o2 s2 hm=>
 have d:=i.rel _ _ hn;have hm1:=i.rel _ _ hm;refine⟨⟨λe=>?_,λe=>?_⟩,⟨λe=>?_,λe=>?_⟩⟩
 ·simp only at e;subst e;exact f.fn _ _ _ d hm1
 ·simp only at e;subst e;exact f.inj _ _ _ d hm1
 ·simp only at e⊢; have:=f.glob _ _ d (.inl e);omega
 simp only at e⊢; have:=f.glob _ _ d (.inr e);omega
def Vl(k:IntKind)(h:AR R a a')(hx:AR R b b'):Sim P F K (λR v v'=>VR F R v v') R (Adl k a b) (Adl k a' b'):=by unfold Adl;refine ah (JL h hx (D6 h hx)) λR1 e x x' d=>?_;obtain rfl:=d;exact ak λ_ _=>.int _ _
def Vm(o:BinOp)(h:AR R a a')(hx:AR R b b'):Sim P F K (λR v v'=>VR F R v v') R (Adm o a b) (Adm o a' b'):=by
 unfold Adm;refine ah (JL h hx (D6 h hx)) λR1 e x x' d=>?_;obtain rfl:=d;obtain⟨x,y⟩:=x;dsimp only
 split<;>first|exact ak λ_ _=>.bool _|exact ay (au _) _
def fD(P:pQ):Nat->tI->Bool
 |0,_=>false
 |d+1,t=>match P.underlying t with
  |some (.int _)=>(match P.info? t with|some i=>(match i.desc with|.named n _=>n != "sync.copyChecker" |_=>true)|none=>false)
  |some .bool=>true
  |some .string=>true
  |some (.array _ e)=>fD P d e
  |some (.struct fs)=>fs.all λf=>fD P d f.type
  |_=>false
def pW(P:pQ)(o:BinOp)(t:tI):Bool:=match o with
 |.add|.sub|.mul|.quo|.rem|.lss|.leq|.gtr|.geq=>(match P.underlying t with|some (.int _)=>true|_=>false)
 |.eql|.neq=>fD P 8 t&& !P.eqGuardType P.depth t
 |_=>false
end
section
variable {P:pQ} {F:fI->Bool} {K:Kd} {R:Rl} {β γ:Type}
theorem xI{f g:γ->β->Sem (ForInStep β)}:∀{l:List γ} {R:Rl},(∀R1,R.le R1->∀x∈l,∀b,Sim P F K (λ_ x x'=>x=x') R1 (f x b) (g x b))->∀(d:β),Sim P F K (λ_ x x'=>x=x') R (forIn l d f) (forIn l d g)
 |[],R,_,_=>ak λ_ _=>rfl
 |x::l,R,h,b=>by
  rw[Aei,Aei];refine ah (h R (.refl _) x (Aah ..) b) λR1 i s q m=>?_;obtain rfl:=m
  cases s with
  |done c=>exact ak λ_ _=>rfl
  |yield c=>exact xI (λe h2 y p=>h e (i.trans h2) y (Rf _ p)) c
theorem zV:∀(d:Nat) (S:Nat) (t:tI),fD P d t=true->∀(R:Rl) {x x' y Z:vL},VR F R x x'->VR F R y Z->Sim P F K (λ_ b b'=>b=b') R (Adk S t x y) (Adk S t x' Z)
 |0,_,_,h,_,_,_,_,_,_,_=>by cases h
 |d+1,0,t,_,R,x,x',y,Z,hx,hy=>ay (au _) _
 |d+1,S+1,t,h,R,x,x',y,Z,hx,hy=>by
  unfold Adk;refine ah (bV t) λR1 h1 dd ac hd=>?_;obtain⟨rfl,hd⟩:=hd;unfold fD at h;rw[hd]at h;have H:=hx.mono h1;have C:=hy.mono h1
  cases dd with
  |int k=>
   dsimp only at h
   cases H with
   |int k1 n1=>
    cases C with
    |int k2 Y=>
     dsimp only
     split
     ·exact ak λ_ _=>rfl
     exact ay (au _) _
    |pointer Q=>
     rcases n1 with(_|n1)|n1
     ·exact ak λ_ _=>rfl
     ·exact ay (au _) _
     exact ay (au _) _
    |_=>exact ay (au _) _
   |pointer T=>
    cases C with
    |int k2 Y=>
     rcases Y with(_|Y)|Y
     ·exact ak λ_ _=>rfl
     ·exact ay (au _) _
     exact ay (au _) _
    |pointer Q=>
     dsimp only;refine ah (pV T) λR2 h2 z E hz=>?_;refine ah (pV (Q.mono h2)) λX J q L hq=>?_;refine ah lN λR4 h4 p p' U=>?_;rw[U.1,U.2];have W:=(hz.1.mono J).mono h4;have V:=hq.1.mono h4;have M:∀G,R4.le G->Sim P F K (λ_ b b'=>b=b') G
      (do
       let .named "sync.copyChecker" _:=(<-typeInfo t).desc|unsupported .addressObserved
       if z.1==q.1 then pure true else Acl .addressObserved)
      (do
       let .named "sync.copyChecker" _:=(<-typeInfo t).desc|unsupported .addressObserved
       if E.1==L.1 then pure true else Acl .addressObserved):=λG h5=>by
      refine ah (rD t) λR6 h6 i i' hi=>?_;obtain⟨rfl,hi⟩:=hi;rw[hi]at h;refine ay ?_ _
      split
      ·rename_i e
       dsimp only at h;rw[e]at h;simp at h
      exact au _
     intro G h5 w u hw;have D:=D6 W V G h5 w u hw;have e1:(z.1.block==q.1.block&&decide (z.1.block<P.globals.size))=(E.1.block==L.1.block&&decide (E.1.block<P.globals.size)):=by
      by_cases e:z.1.block=q.1.block
      ·have e':=D.1.1 e
       by_cases g:z.1.block<P.globals.size
       ·have g':=D.2.1 g
        have N:(z.1.block==q.1.block)=true:=by simpa using e
        have O:(E.1.block==L.1.block)=true:=by simpa using e'
        rw[N,O,decide_eq_true g,decide_eq_true g']
       have g':¬E.1.block<P.globals.size:=λx=>g (D.2.2 x)
       simp[g,g']
      have e':E.1.block≠L.1.block:=λx=>e (D.1.2 x)
      have N:(z.1.block==q.1.block)=false:=by simpa using e
      have O:(E.1.block==L.1.block)=false:=by simpa using e'
      rw[N,O];rfl
     rw[e1];have ab:Sim P F K (λ_ b b'=>b=b') G
      (if (E.1.block==L.1.block&&decide (E.1.block<P.globals.size))=true then do return (<-byteOf z.1)==(<-byteOf q.1)
       else do
        let .named "sync.copyChecker" _:=(<-typeInfo t).desc|unsupported .addressObserved
        if z.1==q.1 then pure true else Acl .addressObserved)
      (if (E.1.block==L.1.block&&decide (E.1.block<P.globals.size))=true then do return (<-byteOf E.1)==(<-byteOf L.1)
       else do
        let .named "sync.copyChecker" _:=(<-typeInfo t).desc|unsupported .addressObserved
        if E.1==L.1 then pure true else Acl .addressObserved):=by
      split
      ·refine ah (tN (W.mono h5)) λR6 h6 a a' T=>?_
       obtain rfl:=T;refine ah (tN ((V.mono h5).mono h6)) λR7 h7 a a' T=>?_;obtain rfl:=T;exact ak λ_ _=>rfl
      exact M G h5
     exact ab G (.refl _) w u hw
    |_=>exact ay (au _) _
   |_=>cases C<;>exact ay (au _) _
  |string=>
   cases H<;>cases C<;>first
    |exact ay (au _) _
    |exact ak λ_ _=>rfl
  |bool=>
   cases H with
   |bool b1=>
    cases C with
    |bool b2=>exact ak λ_ _=>rfl
    |_=>exact ay (au _) _
   |_=>cases C<;>exact ay (au _) _
  |array n e=>
   dsimp only at h
   cases H with
   |agg N O=>
    cases C with
    |agg y1 y2=>
     dsimp only;refine ah (jG e) λR2 h2 m m' hm=>?_;obtain rfl:=hm;refine ah (A:=λ_ x x'=>x=x') ?_ λX J s s' hs=>?_
     ·rw[Ad1,Ad1]
      refine xI (λX J i _ b=>?_) _;refine ah (tV (VRs.mono (h2.trans J) ⟨N,O⟩) e _) λR4 h4 u u' hu=>?_;refine ah (tV (VRs.mono ((h2.trans J).trans h4) ⟨y1,y2⟩) e _) λG h5 v v' hv=>?_;refine ah (zV d S e h G (hu.mono h5) hv) λR6 h6 b b' Q=>?_;obtain rfl:=Q
      split<;>exact ak λ_ _=>rfl
     obtain rfl:=hs
     split<;>exact ak λ_ _=>rfl
    |_=>exact ay (au _) _
   |_=>cases C<;>exact ay (au _) _
  |struct fs=>
   dsimp only at h
   cases H with
   |agg N O=>
    cases C with
    |agg y1 y2=>
     dsimp only;refine ah lN λR2 h2 p p' U=>?_;rw[U.1,U.2]
     split
     ·exact ay (au _) _
     refine ah (A:=λ_ x x'=>x=x') ?_ λX J s s' hs=>?_
     ·rw[<-Ad9,<-Ad9]
      refine xI (λX J f hf b=>?_) _;have aa:fD P d f.type=true:=by rw[Array.all_eq_true_iff_forall_mem]at h;exact h f (by simpa using hf)
      split
      ·refine ah (tV (VRs.mono (h2.trans J) ⟨N,O⟩) f.type _) λR4 h4 u u' hu=>?_
       refine ah (tV (VRs.mono ((h2.trans J).trans h4) ⟨y1,y2⟩) f.type _) λG h5 v v' hv=>?_;refine ah (zV d S f.type aa G (hu.mono h5) hv) λR6 h6 b b' Q=>?_;obtain rfl:=Q
       split<;>exact ak λ_ _=>rfl
      exact ak λ_ _=>rfl
     obtain rfl:=hs
     split<;>exact ak λ_ _=>rfl
    |_=>exact ay (au _) _
   |_=>cases C<;>exact ay (au _) _
  |_=>cases h
def Vo(o:BinOp)(k:FloatKind)(x y:Nat):Sim P F K (λR v v'=>VR F R v v'/\∃r,v=.float k r/\v'=.float k r) R (Abz o k x y) (Abz o k x y):=by
 unfold Abz;have e:∀(R1:Rl) (d:Option Nat),Sim P F K (λR v v'=>VR F R v v'/\∃r,v=.float k r/\v'=.float k r) R1
  (match d with|some r=>pure (.float k r)|none=>do pure (.float k (<-choose (.nanBits k x y)))) (match d with|some r=>pure (.float k r)|none=>do pure (.float k (<-choose (.nanBits k x y)))):=λR1 d=>by
  cases d with
  |some r=>exact ak λ_ _=>⟨.float _ _,r,rfl,rfl⟩
  |none=>refine ah (tC _) λR1 _ n f hn=>?_;obtain rfl:=hn;exact ak λ_ _=>⟨.float _ _,n,rfl,rfl⟩
 cases o<;>first|exact e R _|exact ay (au _) _
def tX(o:BinOp)(k:FloatKind)(x y:Nat):Sim P F K (λR v v'=>VR F R v v') R (Ac6 o k x y) (Ac6 o k x y):=by
 unfold Ac6;dsimp only
 split<;>first|exact ak λ_ _=>.bool _|exact fH _ _
def Vp(o:BinOp)(k:IntKind)(x y:Int):Sim P F K (λR v v'=>VR F R v v') R (Adq o k x y) (Adq o k x y):=by
 unfold Adq
 split
 ·exact ay (jf _) _
 split<;>first|exact ak λ_ _=>.int _ _|exact fH _ _
def JM(k:IntKind)(h:AR R a a')(n:Int):Sim P F K (λR v v'=>VR F R v v') R (Adn k a n) (Adn k a' n):=by
 have C:=h
 cases h with
 | @mk b b' o s hb=>
 unfold Adn;refine ah (DV hb) λR1 A x x' hx=>?_;obtain rfl:=hx
 cases x with
 |none=>exact ay (au _) _
 |some y=>
  obtain⟨e,m⟩:=y;dsimp only;refine ah (rD e) λG h2 i J D=>?_;obtain⟨rfl,_⟩:=D
  split
  ·exact ay (noOk_bindH (au _)) _
  refine ah (tN (C.mono (A.trans h2))) λH _ z M E=>?_;obtain rfl:=E;exact ak λ_ _=>.int _ _
where
 noOk_bindH {α β:Type} {s:Sem β} {f:β->Sem α} (h:fJ P s):fJ P (s >>=f):=λw es a L q d=>by
  rw[runT_bind]at d
  cases p:s.runT P w es with
  |mk r e=>
   rw[p]at d
   cases r with
   |ok b w2=>exact h _ _ _ _ _ p
   |halt x w2=>cases d
def D7{α:Type}{f:TypeDesc->Sem α}(h:∀d,P.underlying t=some d->fJ P (f d)):fJ P (underlying t >>=f):=by
 intro w es a p m i;rw[runT_bind]at i;unfold underlying at i;rw[runT_bind]at i;simp only[program,Adt]at i
 cases e:P.underlying t with
 |none=>rw[e]at i;cases i
 |some d=>rw[e]at i;exact h d e _ _ _ _ _ i
def vC(h:fD P 8 t=true)(x y:vL)(f:x=.tuple #[]\/y=.tuple #[]):fJ P (Aew t x y):=by
 show fJ P (Adk (9999+1) t x y)
 unfold Adk;refine D7 λd i=>?_;unfold fD at h;rw[i]at h
 rcases f with rfl|rfl
 ·cases d with
  |int k=>cases y<;>exact au _
  |bool=>cases y<;>exact au _
  |string=>cases y<;>exact au _
  |array n e=>cases y<;>exact au _
  |struct fs=>cases y<;>exact au _
  |_=>cases h
 cases d with
 |int k=>
  cases x with
  |pointer a=>cases a<;>exact au _
  |int k n=>cases n with
   |ofNat n=>cases n<;>exact au _
   |negSucc n=>exact au _
  |_=>exact au _
 |bool=>cases x<;>exact au _
 |string=>cases x<;>exact au _
 |array n e=>cases x<;>exact au _
 |struct fs=>cases x<;>exact au _
 |_=>cases h
theorem dB{α β:Type}{s:Sem β}{f:β->Sem α}(h:fJ P s):fJ P (s >>=f):=λw es a p m d=>by
 rw[runT_bind]at d
 cases i:s.runT P w es with
 |mk r e=>
  rw[i]at d
  cases r with
  |ok b w2=>exact h _ _ _ _ _ i
  |halt x w2=>cases d
def Vq{o:BinOp}(f:pW P o t=true)(x y:vL)(d:x=.tuple #[]\/y=.tuple #[]):fJ P (binOp o t x y):=by
 have e:(o=.eql\/o=.neq)->fD P 8 t=true:=λh=>by rcases h with rfl|rfl<;>(simp only[pW,Aal]at f;exact f.1)
 have i:=d
 cases o with
 |add|sub|mul|quo|rem|lss|leq|gtr|geq=>
  rcases d with rfl|rfl
  ·cases y<;>exact au _
  cases x with
  |pointer a=>cases a<;>exact au _
  |_=>exact au _
 |eql|neq=>
  have m:=e yW
  rcases d with rfl|rfl
  ·cases y<;>exact dB (vC m _ _ i)
  cases x<;>exact dB (vC m _ _ i)
 |_=>cases f
def Vr{o:BinOp}(V:pW P o t=true){y p:vL}(hx:VR F R x x')(i:VR F R y p):Sim P F K (λR v v'=>VR F R v v') R (binOp o t x y) (binOp o t x' p):=by
 have M:∀{x x' y p:vL},fD P 8 t=true->VR F R x x'->VR F R y p->Sim P F K (λ_ b b'=>b=b') R (Aew t x y) (Aew t x' p):=λh hx i=>zV 8 _ t h R hx i;have e1:∀{x x' y p:vL},fD P 8 t=true->VR F R x x'->VR F R y p->Sim P F K (λR v v'=>VR F R v v') R (do pure (.bool (<-Aew t x y))) (do pure (.bool (<-Aew t x' p))):=λh hx i=>by refine ah (M h hx i) λR1 _ b b' D=>?_;obtain rfl:=D;exact ak λ_ _=>.bool _
 have e2:∀{x x' y p:vL},fD P 8 t=true->VR F R x x'->VR F R y p->Sim P F K (λR v v'=>VR F R v v') R (do pure (.bool (!(<-Aew t x y)))) (do pure (.bool (!(<-Aew t x' p)))):=λh hx i=>by refine ah (M h hx i) λR1 _ b b' D=>?_;obtain rfl:=D;exact ak λ_ _=>.bool _
 have E:∀(o:BinOp) (k:FloatKind) (x y:Nat),Sim P F K (λR v v'=>VR F R v v') R (Abz o k x y) (Abz o k x y):=λo k x y=>JA (Vo o k x y) λ_ _ _ _ h=>h.1;have T:∀{a a' b b':aD},AR R a a'->AR R b b'->Sim P F K (λR v v'=>VR F R v v') R (do Adl .u64 (<-behindNumber a).1 (<-behindNumber b).1) (do Adl .u64 (<-behindNumber a').1 (<-behindNumber b').1):=λJ D=>ah (pV J) λR1 A z Y U=>ah (pV (D.mono A)) λZ h2 q q' X=>Vl _ (U.1.mono h2) X.1
 have L:∀(o:BinOp) {a a' b b':aD},AR R a a'->AR R b b'->Sim P F K (λR v v'=>VR F R v v') R (do Adm o (<-behindNumber a).1 (<-behindNumber b).1) (do Adm o (<-behindNumber a').1 (<-behindNumber b').1):=λo _ _ _ _ J D=>ah (pV J) λR1 A z Y U=>ah (pV (D.mono A)) λZ h2 q q' X=>Vm _ (U.1.mono h2) X.1
 have O:∀{a a':aD},AR R a a'->∀(k:IntKind) (n:Int),Sim P F K (λR v v'=>VR F R v v') R (do Adn k (<-behindNumber a).1 n) (do Adn k (<-behindNumber a').1 n):=λJ k n=>ah (pV J) λR1 A z Y U=>JM k U.1 n
 have f:∀(c:Prop) [Decidable c] (m:String) (s:Sem vL),Sim P F K (λR v v'=>VR F R v v') R s s->Sim P F K (λR v v'=>VR F R v v') R (if c then stuck m else s) (if c then stuck m else s):=λc _ m s hs=>by
  split
  ·exact fH _ _
  exact hs
 have Q:∀{x x' y p:vL},P.underlying t≠some .unsafePointer->VR F R x x'->VR F R y p->Sim P F K (λR v v'=>VR F R v v') R
  (do if (<-underlying t) matches .unsafePointer then movedPointer t x y else movedNumber t x y) (do if (<-underlying t) matches .unsafePointer then movedPointer t x' p else movedNumber t x' p):=λhn hx i=>by
  refine ah (bV t) λR1 A d d' W=>?_;obtain⟨rfl,W⟩:=W
  split
  ·exact absurd W hn
  rw[if_neg yW,if_neg yW]
  exact xH t (hx.mono A) (i.mono A)
 have S:(o=.add\/o=.sub)->P.underlying t≠some .unsafePointer:=λh e=>by rcases h with rfl|rfl<;>simp[pW,e]at V
 have N:(o=.eql\/o=.neq)->fD P 8 t=true:=λh=>by rcases h with rfl|rfl<;>(simp only[pW,Aal]at V;exact V.1)
 cases o with
 |add=>
  cases hx<;>cases i<;>first
   |exact ay (au _) _
   |exact f _ _ _ (D5 _ _ _ _)
   |exact f _ _ _ (E _ _ _ _)
   |(unfold binOp;exact mJ _ _ _)
   |(refine xH t (.pointer ?_) (.int _ _);assumption)
   |exact xH t .nilPointer (.int _ _)
   |(refine Q (S (.inl rfl)) (.pointer ?_) (.int _ _);assumption)
   |exact Q (S (.inl rfl)) .nilPointer (.int _ _)
 |sub=>
  cases hx<;>cases i<;>first
   |exact ay (au _) _
   |exact f _ _ _ (D5 _ _ _ _)
   |exact f _ _ _ (E _ _ _ _)
   |(unfold binOp;exact mJ _ _ _)
   |(refine xH t (.pointer ?_) (.int _ _);assumption)
   |exact xH t .nilPointer (.int _ _)
   |(refine T ?_ ?_<;>assumption)
 |mul|quo|rem=>
  cases hx<;>cases i<;>first
   |exact ay (au _) _
   |exact f _ _ _ (D5 _ _ _ _)
   |exact f _ _ _ (Vp _ _ _ _)
   |exact f _ _ _ (E _ _ _ _)
   |exact f _ _ _ (tX _ _ _ _)
   |(unfold binOp;exact mJ _ _ _)
   |(refine O ?_ _ _;assumption)
 |lss|leq|gtr|geq=>
  cases hx<;>cases i<;>first
   |exact ay (au _) _
   |exact f _ _ _ (xG _ _ _)
   |exact f _ _ _ (tX _ _ _ _)
   |(unfold binOp;exact mJ _ _ _)
   |(refine L _ ?_ ?_<;>assumption)
 |eql=>
  have C:=N (.inl rfl);have G:=hx;have H:=i
  cases hx<;>cases i<;>first
   |exact e1 C G H
   |exact ay (dB (vC C _ _ (.inr rfl))) _
   |exact ay (dB (vC C _ _ (.inl rfl))) _
   |exact f _ _ _ (xG _ _ _)
   |exact f _ _ _ (tX _ _ _ _)
   |(unfold binOp;exact mJ _ _ _)
 |neq=>
  have C:=N (.inr rfl);have G:=hx;have H:=i
  cases hx<;>cases i<;>first
   |exact e2 C G H
   |exact ay (dB (vC C _ _ (.inr rfl))) _
   |exact ay (dB (vC C _ _ (.inl rfl))) _
   |exact f _ _ _ (xG _ _ _)
   |exact f _ _ _ (tX _ _ _ _)
   |(unfold binOp;exact mJ _ _ _)
 |_=>cases V
end
section
variable {P:pQ} {F:fI->Bool} {K:Kd} {R:Rl}
def Vs{d' d:Nat}(h:fD P d t=true):Sim P F K (λ_ b b'=>b=false/\b'=false) R (Acb d' t .nilIface .nilIface) (Acb d' t .nilIface .nilIface):=by
 cases d' with
 |zero=>exact ay (au _) _
 |succ d'=>
  cases d with
  |zero=>cases h
  |succ d=>
   unfold Acb;refine ah (bV t) λR1 m i f e=>?_;obtain⟨rfl,e⟩:=e;unfold fD at h
   grind [ak]
def Vt{o:BinOp}(d:pW P o t=true)(p q:Operand){y e:vL}(hx:VR F R x x')(D:VR F R y e)(E:x≠.tuple #[])(G:y≠.tuple #[]):Sim P F K (λ_ _ _=>True) R (eqGuard o t p q x y) (eqGuard o t p q x' e):=by
 have f:fD P 8 t=true->P.eqGuardType P.depth t=false->Sim P F K (λ_ _ _=>True) R (eqGuard .eql t p q x y) (eqGuard .eql t p q x' e):=λA C=>by
  unfold eqGuard;simp only[Bool.not_true,kF,if_false]
  cases hx<;>cases D<;>first
   |exact absurd rfl E
   |exact absurd rfl G
   |exact ak λ_ _=>trivial
   |(refine ah lN λR1 _ p J m=>?_
     refine ah lN λH _ q L s=>?_;rw[m.1,m.2,s.1,s.2,C];exact ak λ_ _=>trivial)
   |(dsimp only
     (repeat' split)<;>first
      |exact ak λ_ _=>trivial
      |(refine ah (Vs A) λR1 _ b b' i=>?_
        rw[i.1,i.2];exact ak λ_ _=>trivial))
 cases o with
 |eql=>simp only[pW,Aal,Aec]at d;exact f d.1 d.2
 |neq=>simp only[pW,Aal,Aec]at d;exact f d.1 d.2
 |_=>exact ak λ_ _=>trivial
theorem JO{γ:Type}{f:γ->Sem vL}:∀{l:List γ} {f':γ->Sem vL} {R:Rl},(∀R1,R.le R1->∀x∈l,Sim P F K (λR v v'=>VR F R v v') R1 (f x) (f' x))->Sim P F K (λR a a'=>VRl F R a a') R (l.mapM f) (l.mapM f')
 |[],_,_,_=>ak λ_ _=>.nil
 |x::l,f',R,h=>by rw[Aek,Aek];refine ah (h R (.refl _) x (Aah ..)) λR1 i v v' p=>?_;refine ah (JO (l:=l) (f:=f) (f':=f') λd h2 y q=>h d (i.trans h2) y (Rf _ q)) λd h2 a a' m=>?_;exact ak λs e=>.cons ((p.mono h2).mono e) (m.mono e)
def rE:VR F R undef undef:=.tuple rfl λi v v' h=>by simp at h
theorem VRs.getD(h:VRs F R c c')(i:Nat):VR F R (c.getD i undef) (c'.getD i undef):=by
 by_cases e:i<c.size
 ·have f:c[i]? =some c[i]:=aG e;have d:i<c'.size:=h.size▸e;have m:c'[i]? =some c'[i]:=by grind
  simp only[Array.getD,e,d,dif_pos];exact h.get i _ _ f m
 have d:¬i<c'.size:=h.size▸e;simp only[Array.getD,e,d,dif_neg,not_false_eq_true];exact rE
theorem VRl.length(h:VRl F R l l'):l.length=l'.length:=by
 induction h with
 |nil=>rfl
 |cons _ _ ih=>simp[ih]
def VRl.get(h:VRl F R l l'):∀(i:Nat) (v v':vL),l[i]? =some v->l'[i]? =some v'->VR F R v v':=by
 induction h with
 |nil=>intro i v v' h;simp at h
 |cons hv _ ih=>grind
def D8(fn:Func)(h:VRs F R c c'):Sim P F K (λR v v'=>VR F R v v') R (results fn c) (results fn c'):=by
 unfold results;rw[Ad4,Ad4];refine ah (A:=λR a a'=>VRs F R a a') ?_ λR1 m a a' s=>?_
 ·refine ah (JO λR1 m x _=>?_) λR1 m l l' p=>?_
  ·cases x with
   |tmp t=>exact ak λ_ h2=>((h.mono m).mono h2).getD t
   |cell a t=>exact ah (U4 ((h.mono m).getD a)) λ_ _ _ _ y=>JI y t
  refine ak λq h2=>⟨by simpa using(p.mono h2).length,λi v v' e f=>(p.mono h2).get i v v' (by grind) (by grind)⟩
 refine ak λq h2=>?_;have d:=s.mono h2;by_cases e:a.size=1
 ·have f:a'.size=1:=d.size▸e;simp only[e,f,dif_pos];exact d.get 0 _ _ (aG zP) (aG zP)
 have f:¬a'.size=1:=d.size▸e;simp only[e,f,dif_neg,not_false_eq_true];exact .tuple d.size d.get
end
section
variable {P:pQ} {F:fI->Bool} {K:Kd} {R:Rl}
def Vu(h:VR F R v v'):Sim P F K (λR v v'=>VR F R v v') R (Op.unary .not v) (Op.unary .not v'):=by cases h<;>first|exact ak λ_ _=>.bool _|exact ay (au _) _
def Vw(h:VR F R v v')(hx:VR F R x x')(t:tI):Sim P F K (λR v v'=>VR F R v v') R (Ac2 t v x) (Ac2 t v' x'):=by
 unfold Ac2;refine ah (zT hx) λR1 f y A q=>?_;obtain⟨rfl,_,_⟩:=q;obtain⟨k,i⟩:=y;refine ah (bV t) λC h2 d E p=>?_;obtain⟨rfl,_⟩:=p;have e:=(h.mono f).mono h2
 cases d with
 |array len elem=>
  cases e with
  |agg c1 c2=>
   dsimp only
   split
   ·refine ah (jG elem) λD m n G hn=>?_;obtain rfl:=hn;exact tV (VRs.mono m ⟨c1,c2⟩) elem _
   grind [ay,xF]
  |_=>exact ay (au _) _
 |string=>
  cases e with
  |string s=>
   dsimp only
   split
   ·exact ak λ_ _=>.int _ _
   grind [ay,xF]
  |_=>exact ay (au _) _
 |_=>cases e<;>exact ay (au _) _
def Vx(k:FloatKind)(b:Nat)(d:IntKind):Sim P F K (λR v v'=>VR F R v v') R (Conv.floatToInt k b d) (Conv.floatToInt k b d):=by
 have e:Sim P F K (λR v v'=>VR F R v v') R (do pure (.int d (d.wrap (<-choose (.floatToInt k b d)))):Sem vL) (do pure (.int d (d.wrap (<-choose (.floatToInt k b d)))):Sem vL):=by refine ah (tC _) λR1 _ n f hn=>?_;obtain rfl:=hn;exact ak λ_ _=>.int _ _
 unfold Conv.floatToInt;dsimp only
 split
 ·split
  ·exact ak λ_ _=>.int _ _
  exact e
 exact e
def Vy{s:tI}{ks y:IntKind}(p:P.underlying s=some (.int ks))(q:P.underlying t=some (.int y))(h:VR F R v v'):Sim P F K (λR v v'=>VR F R v v') R (convert s t v) (convert s t v'):=by
 unfold convert;refine ah (bV s) λR1 m d f e=>?_;obtain⟨rfl,e⟩:=e;rw[p]at e
 cases e
 refine ah (bV t) λA h2 d f e=>?_;obtain⟨rfl,e⟩:=e;rw[q]at e
 cases e
 have i:=(h.mono m).mono h2
 cases i with
 |int k n=>exact ak λ_ _=>.int _ _
 |float k n=>exact Vx _ _ _
 |_=>exact ay (au _) _
def Vz(p:P.underlying t=some .string)(h:VR F R v v'):Sim P F K (λR v v'=>VR F R v v') R (Ac3 t v) (Ac3 t v'):=by
 unfold Ac3;refine ah (bV t) λR1 y d q e=>?_;obtain⟨rfl,e⟩:=e;rw[p]at e
 cases e
 cases h with
 |string s=>refine ah (A:=λ_ (o o':Obj)=>o=Obj.stringIter s 0/\o'=Obj.stringIter s 0) (ak λ_ _=>⟨rfl,rfl⟩) λf h2 o o' m=>?_;obtain⟨rfl,rfl⟩:=m;refine ah (tH λ_ _=>.iter s 0) λf h2 n C hn=>?_;exact ak λ_ i=>.pointer (.mk 0 none (i.rel _ _ hn.1))
 |_=>exact ay (dB (au _)) _
def VA(h:VR F R v v')(t:tI):Sim P F K (λR v v'=>VR F R v v') R (Adi v true t) (Adi v' true t):=by
 unfold Adi;dsimp only
 cases h with
 | @pointer a a' ha=>
  cases ha with
  | @mk b b' o s hb=>
  cases o with
  |succ o=>exact ay (au _) _
  |zero=>
   refine ah (lQ hb) λR1 f o o' e=>?_
   rcases e with⟨e,d⟩|⟨a,a',l,rfl,rfl,_⟩
   ·cases e with
    |iter s p=>
     dsimp only
     split
     ·refine ah (lT (f.rel _ _ hb) d (.iter s _)) λi h2 _ _ _=>?_;exact ak λ_ _=>.tuple rfl (VRs.push (VRs.push (VRs.one (.bool _)) (.int _ _)) (.int _ _)).get
     exact ak λ_ _=>.tuple rfl (VRs.one (.bool _)).get
    |_=>exact ay (au _) _
   exact ay (au _) _
 |_=>exact ay (au _) _
def VB(h:VR F R v v')(hx:VR F R x x'):Sim P F K (λR v v'=>VR F R v v') R (Ach v x) (Ach v' x'):=by
 cases h with
 |int k n=>
  cases hx with
  |int k' m=>exact ak λ_ _=>.int _ _
  |_=>exact ay (au _) _
 |float k n=>
  cases hx with
  |float k' m=>
   unfold Ach;dsimp only
   split
   ·refine ah (tC _) λR1 _ y f d=>?_;obtain rfl:=d;exact ak λ_ _=>.float _ _
   ·exact ak λ_ _=>.float _ _
   ·exact ak λ_ _=>.float _ _
   exact ak λ_ _=>.float _ _
  |_=>exact ay (au _) _
 |string s=>
  cases hx with
  |string s'=>unfold Ach;dsimp only;refine ah (mJ _ _ _) λR1 _ y f d=>?_;refine ah (DY d) λi _ b b' e=>?_;obtain rfl:=e;exact ak λ_ _=>.string _
  |_=>exact ay (au _) _
 |pointer _=>exact ay (au _) _
 |_=>cases hx<;>exact ay (au _) _
theorem JQ:∀{l l':List vL} {R:Rl} {v v':vL},VRl F R l l'->VR F R v v'->Sim P F K (λR v v'=>VR F R v v') R (l.foldlM Ach v) (l'.foldlM Ach v')
 |[],_,R,v,v',h,hv=>by cases h;exact ak λ_ h2=>hv.mono h2
 |x::_,_,R,v,v',h,hv=>by
  cases h with
  |cons hx hl=>rw[Aee,Aee];exact ah (VB hv hx) λR1 d _ _ e=>JQ (hl.mono d) e
def VD{a a':Array vL}(h:VRs F R a a')(e:Array tI)(t:tI):Sim P F K (λR v v'=>VR F R v v') R (Acj e t a) (Acj e t a'):=by
 have d:=h.toList;unfold Acj;generalize a.toList=l at d;generalize a'.toList=l' at d
 cases d with
 |nil=>exact ay (au _) _
 |cons hx d=>exact JQ d hx
inductive jg (F:fI->Bool) (K:Kd) (R:Rl):Next->Next->Prop
 |value {v v':vL}:VR F R v v'->jg F K R (.value v) (.value v')
 |skip:jg F K R .skip .skip
 |enter (f:fI) {a a':Array vL}:F f=true->VRs F R a a'->jg F K R (.enter f a) (.enter f a')
 |round {l l':Nat} (f:fI) {c c':Array vL} {x b:Code}:R.rel l l'->K.f f->VRs F R c c'->K x->K b->jg F K R (.round l f c x b) (.round l' f c' x b)
theorem jg.mono(h:R.le R'){n d:Next}(x:jg F K R n d):jg F K R' n d:=by
 cases x with
 |value h1=>exact .value (h1.mono h)
 |skip=>exact .skip
 |enter f h1 h2=>exact .enter f h1 (h2.mono h)
 |round f h1 h2 h3 h4 h5=>exact .round f (h.rel _ _ h1) h2 (h3.mono h) h4 h5
theorem JR:∀{l l':List vL} (e:List Tmp) {c c':Array vL},VRl F R l l'->VRs F R c c'->VRs F R ((e.zip l).foldl (λd (p:Tmp×vL)=>d.setIfInBounds p.1 p.2) c) ((e.zip l').foldl (λd (p:Tmp×vL)=>d.setIfInBounds p.1 p.2) c')
 |_,_,[],_,_,_,hc=>by simpa using hc
 |_,_,p::e,c,c',.nil,hc=>by simpa using hc
 |_,_,p::e,c,c',.cons hv hl,hc=>by simp only[List.zip_cons_cons,Aeh];exact JR e hl (hc.set hv _)
theorem xE.mono(h:R.le R'){l l':Loop}(y:xE F K R l l'):xE F K R' l l':=⟨y.state,y.pending,y.kP,y.fn,y.known,y.tmps.mono h,y.params,y.assign,y.body,y.kA,y.kB,h.rel _ _ y.defers⟩
def xJ{l l':Nat}(h:R.rel l l'):Sim P F K (λR x x'=>xE F K R x x'/\R.own l') R (Abx l) (Abx l'):=by
 unfold Abx;refine ah (lQ h) λR1 f o o' e=>?_
 rcases e with⟨e,d⟩|⟨a,a',l,rfl,rfl,_⟩
 ·cases e with
  |loop hl=>exact ak λ_ h2=>⟨hl.mono h2,h2.own _ d⟩
  |_=>exact ay (au _) _
 exact ay (au _) _
def VE{l l':Nat}(h:R.rel l l'){a a':Array vL}(f:VRs F R a a'):Sim P F K (λR n i=>jg F K R n i) R (Aer l a) (Aer l' a'):=by
 unfold Aer;refine ah (xJ h) λR1 e r r' d=>?_;obtain⟨d,_⟩:=d;rw[<-f.size,d.params]
 split
 ·exact ay (dB (au _)) _
 refine ak λm h2=>?_;rw[d.fn,d.assign,d.body];refine .round _ ((e.trans h2).rel _ _ h) d.known ?_ d.kA d.kB;have:=JR (F:=F) r.params.toList ((f.mono e).mono h2).toList (d.tmps.mono h2)
 grind [Array.toList_zip]
end
section
variable {P:pQ} {F:fI->Bool} {K:Kd} {R:Rl}
theorem VF:VR F R default default:=.bool _
def VRs.getBang(h:VRs F R c c')(i:Nat):VR F R c[i]! c'[i]! :=by
 by_cases e:i<c.size
 ·have d:i<c'.size:=h.size▸e;rw[getElem!_pos c i e,getElem!_pos c' i d];exact h.get i _ _ (aG e) (aG d)
 have d:¬i<c'.size:=h.size▸e
 grind [VF]
def zW(h:VRs F R c c')(n:Nat):VRs F R ((Aep n).map λi=>c[i % c.size]!) ((Aep n).map λi=>c'[i % c'.size]!):=by
 refine⟨yW,λi v v' e d=>?_⟩;rw[Aea]at e d
 cases f:(Aep n)[i]? with
 |none=>rw[f]at e;cases e
 |some k=>rw[f]at e d;simp only[Option.map_some,oI]at e d;subst e d;rw[<-h.size];exact h.getBang _
def VG(Q:∀e,P.underlying t=some (.slice e)->mG P F e)(n:Nat){a a':Array (Nat×vL)}(N:PRl F R a.toList a'.toList):Sim P F K (λR v v'=>VR F R v v') R (Aan t n a) (Aan t n a'):=by
 unfold Aan;refine ah (bV t) λR1 M d J C=>?_;obtain⟨rfl,C⟩:=C
 cases d with
 |slice elem=>
  dsimp only;refine ah (jG elem) λH h2 m S O=>?_;obtain rfl:=O;have q:∀s,H.le s->∀z p:Array vL,VRs F s z p->Sim P F K (λR v v'=>VR F R v v') s
   (do
    let some cells:=Aet (λi=>some (i*m,m)) ((Aep (n*m)).map (z[· % z.size]!)) a.toList
     |stuck "buildSlice: a part of the wrong size"
    pure (.slice (some (<-newRow elem cells)) n n))
   (do
    let some cells:=Aet (λi=>some (i*m,m)) ((Aep (n*m)).map (p[· % p.size]!)) a'.toList
     |stuck "buildSlice: a part of the wrong size"
    pure (.slice (some (<-newRow elem cells)) n n)):=by
   intro s y z p f
   rcases DZ (λi=>some (i*m,m)) (((N.mono M).mono h2).mono y) (zW f (n*m))with e|⟨d,J,e,L,D⟩
   ·simp only[e]
    exact ay (au _) _
   simp only[e,L]
   refine ah (zS D elem) λG h4 x x' hx=>?_;exact ak λ_ E=>.slice _ _ (hx.mono E)
  split
  ·exact ay (dB (au _)) _
  split
  ·refine ah (A:=λR z p=>VRs F R z p) (ak λ_ _=>VRs.nil) λs y z p f=>q s y z p f
  refine ah (tJ (Q elem C)) λs y z p f=>?_
  refine ah (A:=λR z p=>VRs F R z p) (ak λ_ E=>(f.1.mono E).cells) λG h4 z p f=>q G (y.trans h4) z p f
 |_=>exact ay (au _) _
def JU(n:Nat):Sim P F K (λ_ _ _=>True) R (askRoom n) (askRoom n):=by
 unfold askRoom
 grind [UU,ak]
def VH(h:VR F R v v'):Sim P F K (λ_ n d=>n=d) R (Ab0 v) (Ab0 v'):=by cases h<;>first|exact ak λ_ _=>rfl|exact ay (au _) _
def JV(s:ByteArray):VRs F R (s.data.map λb=>Value.int .u8 b.toNat) (s.data.map λb=>Value.int .u8 b.toNat):=by
 refine⟨rfl,λi v v' e d=>?_⟩;rw[e,oI]at d;subst d;rw[Aea]at e
 cases hx:s.data[i]? with
 |none=>rw[hx]at e;cases e
 |some b=>rw[hx]at e;simp only[Option.map_some,oI]at e;subst e;exact .int _ _
def D9(m n:Nat)(h:VR F R v v'):Sim P F K (λR c c'=>VRs F R c c') R (Aaa m n v) (Aaa m n v'):=by
 cases h with
 |nilSlice _ _=>exact ak λ_ _=>VRs.nil
 |slice _ _ ha=>exact DX ha _
 |string s=>exact ak λ_ _=>JV _
 |_=>exact ay (au _) _
def VRs.appended{a a' b b':Array vL}(h:VRs F R a a')(f:VRs F R b b'):VRs F R (a++b) (a'++b'):=by
 refine⟨by simp[h.size,f.size],λi v v' e d=>?_⟩;rw[Array.getElem?_append]at e d;rw[<-h.size]at d;by_cases m:i<a.size
 ·rw[if_pos m]at e d;exact h.get i v v' e d
 rw[if_neg m]at e d;exact f.get _ v v' e d
def VI{D:Array tI}{V W:tI}(Y:D[0]? =some V)(h1:D[1]? =some W)(hn:∀k,P.underlying W≠some (.int k))(hz:∀e,P.underlying V=some (.slice e)->mG P F e)(t:tI)(h:VR F R v v')(hx:VR F R x x'):Sim P F K (λR v v'=>VR F R v v') R (Aa3 D t #[v,x]) (Aa3 D t #[v',x']):=by
 have f:∀(o o':Option aD) (n c:Nat),(o=none/\o'=none\/∃a a',o=some a/\o'=some a'/\AR R a a')->VR F R (.slice o n c) (.slice o' n c)->
  Sim P F K (λR v v'=>VR F R v v') R (Aa3 D t #[.slice o n c,x]) (Aa3 D t #[.slice o' n c,x']):=by
  intro o o' n c ho hs;unfold Aa3;simp only[Y,h1,Ad8,Ad5,Ad6];refine ah (bV V) λR1 l1 d d' O=>?_;obtain⟨rfl,O⟩:=O
  cases d with
  |slice elem=>
   dsimp only;refine ah (jG elem) λR2 l2 m m' hm=>?_;obtain rfl:=hm;refine ah (bV W) λR3 l3 d d' s=>?_;obtain⟨rfl,s⟩:=s;refine ah (A:=λ_ a a'=>a=false/\a'=false) (ak λ_ _=>by cases d<;>first|exact⟨rfl,rfl⟩|exact absurd s (hn _)) λR4 l4 b b' hb=>?_;obtain⟨rfl,rfl⟩:=hb;simp only[kF,if_false,Bool.not_false,if_true,false_or];have H:=l1.trans (l2.trans (l3.trans l4));refine ah (VH (hx.mono H)) λR5 l5 k k' hk=>?_;obtain rfl:=hk;have p:=H.trans l5
   split
   ·refine ah (D9 m k (hx.mono p)) λX M cs ac N=>?_
    rcases ho with⟨rfl,rfl⟩|⟨a,a',rfl,rfl,L⟩
    ·exact ak λ_ _=>.nilSlice _ _
    dsimp only
    refine ah (zO ((L.mono (p.trans M)).add _) _ _ 0 X (.refl _) N.toList) λR7 U _ _ _=>?_;exact ak λ_ T=>.slice _ _ (L.mono ((p.trans M).trans (U.trans T)))
   refine ah (rD elem) λX M i i' hi=>?_
   obtain⟨rfl,_⟩:=hi
   split
   ·grind [ay,dB,jf]
   refine ah (rD elem) λR7 U i2 ad Q=>?_
   obtain⟨rfl,_⟩:=Q
   split
   ·refine ay (dB (pU λb=>?_)) _
    split<;>first|exact pU λ_=>au _|exact au _
   refine ah (tC _) λR8 l8 q q' hq=>?_
   obtain rfl:=hq;refine ah (rD elem) λR9 l9 i3 ae S=>?_;obtain⟨rfl,_⟩:=S;refine ah (JU _) λRa la _ _ _=>?_;have J:=p.trans (M.trans (U.trans (l8.trans (l9.trans la))));refine ah (D9 m n (hs.mono J)) λRb lb ag ab G=>?_;refine ah (D9 m k (hx.mono (J.trans lb))) λRc lc af aa E=>?_;refine ah (tJ (hz elem O)) λRd ld z z' C=>?_;obtain⟨C,rfl⟩:=C;refine ah (zS (((G.mono (lc.trans ld)).appended (E.mono ld)).appended (zW C.cells _)) elem) λRe le y y' hy=>?_;exact ak λ_ T=>.slice _ _ (hy.mono T)
  |_=>exact ay (au _) _
 have no:∀{v:vL},(∀o n c,v≠.slice o n c)->fJ P (Aa3 D t #[v,x]):=λ{v} hv=>by
  unfold Aa3;simp only[Y,Ad8,Ad5,Ad6];refine pU λd=>?_
  cases d with
  |slice e=>cases v<;>first|exact au _|exact absurd rfl (hv _ _ _)
  |_=>exact au _
 have Z:=h
 cases h with
 |nilSlice n c=>exact f none none n c (.inl ⟨rfl,rfl⟩) Z
 | @slice a a' n c L=>exact f (some a) (some a') n c (.inr ⟨a,a',rfl,rfl,L⟩) Z
 |_=>exact ay (no yW) _
end
end Go.Tp
