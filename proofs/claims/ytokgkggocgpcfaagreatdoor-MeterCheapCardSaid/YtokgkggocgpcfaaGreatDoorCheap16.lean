/- Part; no conditions. -/
import Derived.Test.YtokgkggocgpcfaaGreatDoorCheap15
import Derived.Lib.SmallJoins
import Derived.Deep.SlicePairs
import Derived.Test.YtokgkggocgpcfaaGreatDoorRows
import Derived.Conc.LeavingOf
import Derived.LaidMore
import Derived.OpenShut
import Derived.ProofKit
import Derived.Stop.Joined
import Derived.SevenTiedAt
open Bool renaming false_eq_true->kF
open Go.DataW renaming trod_struct->Alv,trod_int->Aly,trod->Al1
open Option renaming getD_some->Agx
open Option.some renaming inj->Agy
open Go.Conc renaming base->Aks,Good->Al2
open Go.Value renaming okWide->Alz,cells->Al0
open Go.Frame renaming enter->Ac9
open Go renaming TypeId->tI,Value->vL,World->wD,MemPlace->Al3,maxLen->Akv
open Go.IntKind renaming i64->qi
open Go.Proofs.Tryz renaming prog->tP
open List renaming getElem?_eq_getElem->lG
open Array renaming getElem?_eq_some_iff->aS
open Go.Proofs.Tryz
open Go.Proofs.YtokgkggocgpcfaaGreatDoor
set_option maxRecDepth 100000
set_option maxHeartbeats 4000000
set_option linter.all false
namespace Go.Proofs.Y
open Go.RowKit Go.Tp Go.Meter Go.Conc Go.ConcN
section
variable {w:wD} {V:BkV} {B:Bk} {far a1 a2 a3 a4 mon:Int}
def aeQ(hR:sS w V B)(b0:0<=far/\far<=65535)(b1:0<=a1/\a1<=255)(b2:0<=a2/\a2<=255)(b3:0<=a3/\a3<=255)(b4:0<=a4/\a4<=255)(b5:0<=mon/\mon<=65535):
 bT tP 7 #[V.val B,.int .u16 far,.int .u8 a1,.int .u8 a2,.int .u8 a3,.int .u8 a4,.int .u16 mon] w λv F=>Kp w F/\v=.bool true:=by
 refine iU (f:=7) (fn:=f7) (x:=mc0) rfl rfl ?_;refine bD rfl (aex λa w1 b s g hc=>bD (c:=mc1) rfl (bD (c:=sqL mc1) rfl (aey (hR.kp g) hc s λa w2 s G=>?_)));have K:=g.trans G;have I:=hR.kp K;have ab:=G.cells hc;clear hR hc g G;generalize y:(.code (sqR mc1)::[]:List Item)=kr;simp only[mc1,mc0,sqL,sqR,f7,Agx];refine kZ (!lX B) s ?_
 cases N:lX B with
 |false=>
  simp only[Bool.not_false,if_true];refine aQ (bK ?_)
  show GLb _ _ (.inRegion _ [0,1]::_) _ _ _
  refine lq (CV I.var I.big) s λa v u ⟨S,T⟩ s=>?_;subst T;refine aC (.bool true) s λa s=>?_;refine bM (rU (fn:=f7) rfl rfl ⟨K.trans S,?_⟩);have h:=s.2.2.1;simpa using h
 |true=>
  simp only[Bool.not_true,kF,if_false];subst y;obtain⟨ac,O⟩:=aes N;have l:LvS w2 b V B:=⟨ab,I.gbk ac⟩;clear N I ab;have s1:=s.tl;clear s;refine rQ (bD (c:=mc2) rfl (aez b0 s1 λa w s g=>bD (c:=mc3) rfl (aeA b1 b2 b3 s λa F s G=>bD (c:=mc4) rfl (aeB s λa al s k3=>?_))));have k:=(g.trans G).trans k3;replace K:=K.trans k;replace l:=l.kp k;clear k g G k3 s1;have Q:0<=far % 1000/\far % 1000<=999:=zP
  have hn:0<=a3 % 50/\a3 % 50<=49:=zP
  have hf:0<=min (a1 % 201) (a2 % 201)/\min (a1 % 201) (a2 % 201)<=max (a1 % 201) (a2 % 201):=zP
  have ht:max (a1 % 201) (a2 % 201)<=200:=zP
  generalize far % 1000=d at*;generalize a3 % 50=n at*;generalize min (a1 % 201) (a2 % 201)=f at*;generalize max (a1 % 201) (a2 % 201)=t at*;refine bD (c:=mc5) rfl (aeC l s λa w1 s g=>bD (c:=mc6) rfl (aeD b5 s λa w2 s G=>?_));replace K:=(K.trans g).trans G;replace l:=(l.kp g).kp G;have hm:0<=mon % 10000/\mon % 10000<=9999:=zP
  generalize mon % 10000=m at*;clear g G b0 b1 b2 b3 b5;refine bD (c:=mc7) rfl (aeE l s λa w1 s g=>?_);replace K:=K.trans g;replace l:=l.kp g;clear g;refine bD (c:=mc8) rfl (bD (c:=sqL mc8) rfl ?_);by_cases X:B.zoneIx d=none
  ·
    have e1:jy B d n f t=9:=by rw[PZ O Q zP hf ht,if_pos X]
    have e2:jL B d f m=9:=by rw[P5 O Q zP hm,if_pos X]
    rw[e1,e2]at s;generalize y:(.code (sqR mc8)::[]:List Item)=kr;simp only[mc8,mc7,mc6,mc5,mc4,mc3,mc2,mc1,mc0,sqL,sqR,f7,Agx];refine bK ?_
    show GLb _ _ (.inRegion _ [0,1]::_) _ _ _
    refine aC (.int qi 9) s λa s=>?_;refine aC (.bool true) s λa s=>?_;refine bM (kZ true s ?_);simp only[if_true];refine aQ (bK ?_)
    show GLb _ _ (.inRegion _ [0,1,2,3,4,5,6,7,8,9,10]::_) _ _ _
    refine aC (.int qi 9) s λa s=>?_;refine aC (.bool true) s λa s=>?_;refine aC (.bool true) s λa s=>?_;refine wV (.int qi 9) s λa s=>?_;refine wV (.int qi 9) s λa s=>?_;refine wV (.bool true) s λa s=>?_;refine aC (.bool true) s λa s=>?_;refine aC (.bool true) s λa s=>?_;refine P6 (CV l.gbk.var l.gbk.big) s λa v u ⟨S,T⟩ s=>?_;subst T;refine aC (.bool true) s λa s=>?_;refine aC (.bool true) s λa s=>?_;refine bM (rU (fn:=f7) rfl rfl ⟨K.trans S,?_⟩);have h:=s.2.2.1;simpa using h
  obtain⟨e1,e2,ah,aj,af,hx,ad,ae⟩:=aew O Q X hn hf ht hm
  rw[e1,e2]at s;generalize (dY B d n f t).1=p at*;generalize (dY B d n f t).2=pr at*;generalize iM B d f m=i at*;generalize y:(.code (sqR mc8)::[]:List Item)=kr;simp only[mc8,mc7,mc6,mc5,mc4,mc3,mc2,mc1,mc0,sqL,sqR,f7,Agx];refine bK ?_
  show GLb _ _ (.inRegion _ [0,1]::_) _ _ _
  have s0:=s;refine aC (.int qi 0) s λa s=>?_;refine aC (.bool false) s λa s=>?_;refine bM (kZ false s ?_);simp only[kF,if_false];subst y;have s1:=s.tl.tl;clear s s0;refine rQ (bD (c:=mc9) rfl (aeF zP zP (by simp[btw];omega) s1 λa w s g=>?_));replace K:=K.trans g;replace l:=l.kp g;clear g s1;have s2:=s.tl;clear s;have C:∀(R:vL->wD->Prop) (A:List Item) (a:Act) (w:wD),LvS w b V B->Sl a 214 (ms0 i m pr p t f n d b a4)->
   (∀J F,Sl J 214 (ms0 i m pr p t f n d b a4)->Kp w F->GLb tP (Aks 7) A R J F)->GLb tP (Aks 7) (.code (sqL iP)::A) R a w:=λR A a w l M L=>by
   by_cases r:p+n<=200
   ·obtain⟨Y,Z⟩:=CX (a:=p) (e:=p+n) O Q X zP r
    exact aeG zP r (by rw[Z,af]) Y l M L
   exact aeH zP r M L
  refine bD (c:=iP) rfl (C _ _ a w l s2 λa w s g=>?_);replace K:=K.trans g;replace l:=l.kp g;clear g C s2;have ag:0<=a4 % (t-f+1)/\a4 % (t-f+1)<t-f+1:=⟨Int.emod_nonneg _ zP,Int.emod_lt_of_pos _ zP⟩;refine bD (c:=iQ) rfl (bD (c:=sqL iQ) rfl (aeI zP s λa w s g=>?_));replace K:=K.trans g;replace l:=l.kp g;have U:=hx (f+a4 % (t-f+1)) zP zP;have ak:0<=f+a4 % (t-f+1)/\f+a4 % (t-f+1)<=200:=zP
  generalize f+a4 % (t-f+1)=x at*;clear g hx ag;have D:∀(R:vL->wD->Prop) (A:List Item) (a:Act) (w:wD),LvS w b V B->Sl a 214 ((27,.int qi x)::ms0 i m pr p t f n d b a4)->
   (∀J F,Sl J 214 (ms0 i m pr p t f n d b a4)->Kp w F->GLb tP (Aks 7) A R J F)->GLb tP (Aks 7) (.code (sqR (sqL iQ))::A) R a w:=λR A a w l M L=>by
   by_cases r:x+n<=200
   ·obtain⟨Y,Z⟩:=CX (a:=x) (e:=x+n) O Q X zP r
    exact aeJ zP r Z Y U.1 U.2 l M L
   exact aeK zP r M L
  refine D _ _ a w l s λa w s g=>?_;replace K:=K.trans g;replace l:=l.kp g;clear g D U;have E:∀(R:vL->wD->Prop) (A:List Item) (a:Act) (w:wD),LvS w b V B->Sl a 214 (ms0 i m pr p t f n d b a4)->
   (∀J F,Sl J 214 (ms0 i m pr p t f n d b a4)->Kp w F->GLb tP (Aks 7) A R J F)->GLb tP (Aks 7) (.code (sqL lC)::A) R a w:=λR A a w l M L=>by
   by_cases r:f+i<=200
   ·obtain⟨Y,Z⟩:=CX (a:=f) (e:=f+i) O Q X zP r
    exact aeL zP r Z Y (by have:=ad r;omega) l M L
   exact aeM zP r M L
  refine bD (c:=lC) rfl (E _ _ a w l s λa w s g=>?_);replace K:=K.trans g;replace l:=l.kp g;clear g E;refine bD (c:=lF) rfl (bD (c:=sqL lF) rfl ?_);by_cases r:f+i+1>200
  ·refine aeN zP r s λa w s g=>?_
   generalize y:(.code (sqR lF)::[]:List Item)=kr;simp only[lF,lC,iQ,iP,mc9,mc8,mc7,mc6,mc5,mc4,mc3,mc2,mc1,mc0,sqL,sqR,f7,Agx];refine kZ true s ?_;simp only[if_true];refine aQ (bK ?_)
   show GLb _ _ (.inRegion _ [0,1]::_) _ _ _
   have aa:=l.kp g;refine lq (CV aa.gbk.var aa.gbk.big) s λa v u ⟨S,T⟩ s=>?_;subst T;refine aC (.bool true) s λa s=>?_;refine bM (rU (fn:=f7) rfl rfl ⟨(K.trans g).trans S,?_⟩);have h:=s.2.2.1;simpa using h
  refine aeO zP r s λa w s g=>?_
  replace K:=K.trans g;replace l:=l.kp g;clear g;generalize y:(.code (sqR lF)::[]:List Item)=kr;simp only[lF,lC,iQ,iP,mc9,mc8,mc7,mc6,mc5,mc4,mc3,mc2,mc1,mc0,sqL,sqR,f7,Agx];refine kZ false s ?_;simp only[kF,if_false];subst y;have s3:=s.tl;clear s;obtain⟨Y,Z⟩:=CX (a:=f) (e:=f+i+1) O Q X zP zP;have ai:B.price d f (f+i+1)>m:=ae zP;refine rQ (bD (c:=wW) rfl (aeP zP Z Y l s3 λa w s g=>?_));replace K:=K.trans g;replace l:=l.kp g;generalize B.price d f (f+i+1)=q at*;clear g;refine bD (c:=sqR wW) rfl ?_
  show GLb _ _ (.code (sqL (sqR wW)):: .code .ret::[]) _ _ _
  simp only[wW,lF,lC,iQ,iP,mc9,mc8,mc7,mc6,mc5,mc4,mc3,mc2,mc1,mc0,sqL,sqR,f7,Agx];refine bK ?_
  show GLb _ _ (.inRegion _ [0,1,2,3,4,5,6,7,8,9,10]::_) _ _ _
  refine aC (.int qi 0) s λa s=>?_;refine aC (.bool true) s λa s=>?_;refine aC (.bool true) s λa s=>?_;refine wV (.int qi q) s λa s=>?_;refine wV (.int qi m) s λa s=>?_;refine wV (.bool true) s (λa s=>?_) (hr:=λτ d=>by have h:=s.2.2;simp only[SlA]at h;simp[go_sem,h];omega);refine aC (.bool true) s λa s=>?_;refine aC (.bool true) s λa s=>?_;refine P6 (CV l.gbk.var l.gbk.big) s λa v u ⟨S,T⟩ s=>?_;subst T;refine aC (.bool true) s λa s=>?_;refine aC (.bool true) s λa s=>?_;refine bM (rU (fn:=f7) rfl rfl ⟨K.trans S,?_⟩);have h:=s.2.2.1;simpa using h
end
end Go.Proofs.Y
namespace Go.Tp
open Go.Conc Go.ConcN Go.RowKit
def aeR{P:Program}{fr:Frame}{w:wD}{v:vL}{fn:Func}(g:fr.mode=.returning)(a:fr.defers=[])(f:fr.kind=.normal)(c:P.funcs[fr.fn]? =some fn)(hr:results fn fr.tmps=pure v)(d:P.inits.idxOf? fr.fn=none):stepG P true (G fr []) w=.ended (.done v) w #[]:=by simp[G,stepG,unwind,doReturn,g,a,f,c,hr,d,seen,GStep.after]
def aeS:bW (λ_=>False)=λ_=>False:=by
 funext x
 cases x<;>rfl
abbrev RW(W:wD):Rl:=RK (λ_=>True) W
noncomputable abbrev Ir(P:Program)[Team P](W:wD):wD:=frz (tF P) (λ_=>True) W
def aeT{P:Program}[Team P]{f:FuncId}{fn:Func}{t:Tmp}(Z:P.funcs[f]? =some fn)(hi:P.inits.idxOf? f=none)(m:fn.results=#[.tmp t])(W:wD)(args:Array vL)(d:vL->wD->Prop){K:wD->Prop}{x:Bool}(hG:P.globals.size<=W.heap.size)(Q:∀b,tG P b=true->mY (λ_=>True) W b)(q:∀(i:Nat) v,args[i]? =some v->VR (tF P) (RW W) v v)(hR:∀w:wD,w.tape=W.tape->w.os=W.os->w.output=W.output->W.heap.size<=w.heap.size->(∀b,b<W.heap.size->w.heap[b]? =W.heap[b]?)->d (.bool x) w)(h:bT P f args (Ir P W) λv r=>K r/\v=.bool x):
 ∃M a o r E,runNT P (M+1) (solo (G (Ac9 P f args .normal) []) W) #[]=(.ended o r,E)/\runN P M (solo (G (Ac9 P f args .normal) []) W)=.next a/\step P a=.ended o r/\Al2 P d a o r E:=by
 have hM:Mod P (λb=>b<W.heap.size) (λ_=>False) (RW W) (Ir P W) W:=⟨LJ hG,λb b' g=>by obtain⟨rfl,_,c,t,z,e⟩:=g;exact .inr (aS.1 e).1,λb g=>⟨rfl,Q b g⟩,⟨λb g=>⟨g.elim (λx=>x.elim) id,id⟩,λb g=>g.elim⟩,λb _ g=>g⟩
 obtain⟨N,J,p,R',v,g',r,F,U,E,q',y,h0,⟨T,I,A,aa,rfl,hT,u,R⟩,⟨_,rfl⟩,_,s,⟨_,l⟩,hL,hP⟩:=
  h (λb=>b<W.heap.size) (λ_=>False) (RW W) args W #[G (Ac9 P f args .normal) []] none #[] (λ_=>0) [] ⟨rfl,λi v v' e X=>by rw[e]at X;cases X;exact q i v e⟩ (LH W) hM rfl (leavers_one P _) (by rw[aeS];exact past_nil.mono (Nat.zero_le _))
 rw[show (Aks f).fn=f from rfl,Z]at u;obtain rfl:=Agy u;have hv:I.getD t undef=.bool x:=by
  have C:=R (λ_ _=>0) 0;rw[results_tmp m]at C;have h2:T.getD t undef=.bool x:=by simpa using C
  have D:=hT.getD t;rw[h2]at D;exact ET D
 have S:W.heap.size<=F.heap.size:=by
  by_cases hz:W.heap.size=0
  ·omega
  have:=(s.live.at_ (W.heap.size-1) (.inr (by show W.heap.size-1<W.heap.size;omega))).1;omega
 have L:Goes P true AtRel (λ_ _ Y=>Y=#[]) (AtEnd P (bW p) F.heap.size d) 0 (G {(Aks f).at ⟨I,[]⟩ A with mode:=.returning} []) F:=by rintro w1 ⟨d1,rfl⟩;refine⟨rfl,.bool x,#[],?_,λe O=>by simp at O,hR _ l.tape l.os l.output S λb g=>l.keep b g⟩;exact aeR rfl rfl rfl Z (by show results _ I=_;rw[<-hv];simp[results,m]) hi
 obtain⟨M,a,o,w2,t2,C,h2,D,h4⟩:=beside_ends (λw r Y e=>by subst e;intro e O;simp at O) h0 hL hP L;have hr:runNT P N (solo (G (Ac9 P f args .normal) []) W) #[]=(.next (crowd J F U),E):=y;refine⟨N+M,a,o,w2,t2,?_,?_,D,h4⟩
 ·rw[Nat.add_assoc,runNT_add,hr];exact C
 rw[runN_add,<-runNT_fst P N _ #[],hr];exact h2
end Go.Tp
namespace Go.Proofs.Y
open Go.RowKit Go.Meter Go.Tp Go.Conc Go.Deep Go.ChangeShapes Go.WideShapes Go.Joins
variable {w:wD} {t e:tI}
theorem yZ{α:Type}{P:Nat->α->Prop}:∀(n:Nat),(∀i,i<n->∃x,P i x)->∃l:List α,l.length=n/\∀i x,l[i]? =some x->P i x
 |0,_=>⟨[],rfl,λi x h=>by simp at h⟩
 |n+1,h=>by
  obtain⟨l,a,d⟩:=yZ n λi c=>h i zP;obtain⟨x,hx⟩:=h n (Nat.lt_succ_self n);refine⟨l++[x],by simp[a],λi y f=>?_⟩
  grind
theorem aeU(b o n:Nat):(⟨b,o,none⟩:Addr).add n=⟨b,o+n,none⟩:=by
 unfold Addr.add
 grind
theorem aeV{a:Addr}{v:vL}(h:w.cell? (a.add 0)=some v):a=⟨a.block,a.off,none⟩:=by
 have:=World.cell?_spot h;obtain⟨b,o,s⟩:=a
 grind [Addr.add]
def Iu:Bool->vL->Prop
 |true,v=>∃s:ByteArray,v=.string s/\s.size<=Akv
 |false,v=>∃n,v=.int qi n
def aeW{α:Type}{cs:Array α}(h:cs.size=7):∃c0 c1 a c d f g,cs=#[c0,c1,a,c,d,f,g]:=by
 obtain⟨l⟩:=cs
 match l,h with
 |[c0,c1,a,c,d,f,g],_=>exact⟨c0,c1,a,c,d,f,g,rfl⟩
section
variable {H:Type} {enc:tI×vL->H} {P:Program} {w:wD} {base:Nat} {spare:Nat->Bool} {held:Bool}
def Reads(enc:tI×vL->H)(P:Program)(w:wD)(base:Nat)(spare:Nat->Bool)(held:Bool)(t:tI)(ks:List Bool):Prop:=
 ∀fuel cs x,Al1 enc P w base spare held fuel t cs=some x->∀(j:Nat) k,ks[j]? =some k->∃v,cs[j]? =some v/\Iu k v
def mg(c:P.underlying t=some (.int qi)):Reads enc P w base spare held t [false]:=λfuel cs x h j k a=>by
 obtain⟨n,rfl,_⟩:=Aly c h
 match j,a with
 |0,a=>cases a;exact⟨_,rfl,n,rfl⟩
 |j+1,a=>simp at a
def P7(c:P.underlying t=some .string):Reads enc P w base spare held t [true]:=λfuel cs x h j k a=>by
 obtain⟨s,rfl,_,d⟩:=DataW.trod_string c h
 match j,a with
 |0,a=>cases a;exact⟨_,rfl,s,rfl,d⟩
 |j+1,a=>simp at a
def zh{d:Array Field}{ks:List Bool}(he:P.underlying e=some (.struct d))(s:∀(j:Nat) k,ks[j]? =some k->∃(i:Nat) (f:Field) (a:Nat) (c:List Bool),d[i]? =some f/\f.offset+a=j/\a<P.cellsOf f.type/\c[a]? =some k/\Reads enc P w base spare held f.type c):Reads enc P w base spare held e ks:=λfuel cs x h j k r=>by
 obtain⟨i,f,a,c,g,h2,D,h4,h5⟩:=s j k r;obtain⟨y,E,_,_,l,u,m⟩:=Alv he h;have q:=m i f g;have p:i<y.length:=by have:=(aS.1 g).1;omega
 rw[lG p]at q;obtain⟨v,A,C⟩:=h5 _ _ _ q a k h4
 grind
def CY{ks:List Bool}{fuel:Nat}{cs:List vL}{x:DataW H×List Al3}(J:P.underlying t=some (.slice e))(r:P.cellsOf e=ks.length)(I:0<ks.length)(C:Reads enc P w base spare held e ks)(h:Al1 enc P w base spare held fuel t cs=some x):
 ∃p c d,cs=[.slice p c d]/\c<=d/\d<=Akv/\∀i,i<c->∃b o,p=some ⟨b,o,none⟩/\∀(j:Nat) k,ks[j]? =some k->∃v,w.cell? ⟨b,o+i*ks.length+j,none⟩=some v/\Iu k v:=by
 rcases open_slice J h with⟨rfl,_⟩|⟨a,c,d,m,n,D,K,rfl,N,E,G,f,_,hx⟩
 ·grind
 have F:c<=m:=by rw[f];split<;>omega
 have l:∀i,i<c->∀(j:Nat) k,ks[j]? =some k->∃v,w.cell? (a.add (i*ks.length+j))=some v/\Iu k v:=λi y j k A=>by
  have hjl:j<ks.length:=by grind
  obtain⟨q,hc,g⟩:=hx i zP;rw[r]at hc;obtain⟨_,u,s⟩:=World.cells?_some hc;obtain⟨v,L,M⟩:=C _ _ _ g j k A
  grind [add_add]
 refine⟨some a,c,d,rfl,E,G,λi y=>?_⟩;have hlt:0<c:=zP
 obtain⟨v,z,_⟩:=l 0 hlt 0 _ (lG I);rw[Nat.zero_mul]at z
 grind [aeV,aeU,Nat.add_assoc]
end
section
variable {H:Type} {enc:tI×vL->H} {w:wD} {base b0:Nat} {spare:Nat->Bool} {held:Bool} {fuel:Nat} {cs:List vL} {x:DataW H×List MemPlace}
def cl3:tP.cellsOf 3=1:=xD
def cl9:tP.cellsOf 9=1:=xD
def wX:tP.cellsOf 32=2:=xD
def aeX:tP.cellsOf 60=1:=xD
def wY:Reads enc tP w base spare held 32 [false,false]:=zh underlying32 λj k h=>by
 match j,h with
 |0,h=>exact⟨0,_,0,[false],rfl,rfl,(show _<tP.cellsOf 3 by rw[cl3];decide),h,mg underlying3⟩
 |1,h=>exact⟨1,_,0,[false],rfl,rfl,(show _<tP.cellsOf 3 by rw[cl3];decide),h,mg underlying3⟩
 |j+2,h=>simp at h
def aeY:Reads enc tP w base spare held 105 [false,false,false,false]:=zh underlying105 λj k h=>by
 match j,h with
 |0,h=>exact⟨0,_,0,[false],rfl,rfl,(show _<tP.cellsOf 3 by rw[cl3];decide),h,mg underlying3⟩
 |1,h=>exact⟨1,_,0,[false],rfl,rfl,(show _<tP.cellsOf 3 by rw[cl3];decide),h,mg underlying3⟩
 |2,h=>exact⟨2,_,0,[false],rfl,rfl,(show _<tP.cellsOf 3 by rw[cl3];decide),h,mg underlying3⟩
 |3,h=>exact⟨3,_,0,[false],rfl,rfl,(show _<tP.cellsOf 3 by rw[cl3];decide),h,mg underlying3⟩
 |j+4,h=>simp at h
def aeZ:Reads enc tP w base spare held 81 [true,false,false,false]:=zh underlying81 λj k h=>by
 match j,h with
 |0,h=>exact⟨0,_,0,[true],rfl,rfl,(show _<tP.cellsOf 9 by rw[cl9];decide),h,P7 underlying9⟩
 |1,h=>exact⟨1,_,0,[false],rfl,rfl,(show _<tP.cellsOf 3 by rw[cl3];decide),h,mg underlying3⟩
 |2,h=>exact⟨2,_,0,[false,false],rfl,rfl,(show _<tP.cellsOf 32 by rw[wX];decide),h,wY⟩
 |3,h=>exact⟨2,_,1,[false,false],rfl,rfl,(show _<tP.cellsOf 32 by rw[wX];decide),h,wY⟩
 |j+4,h=>simp at h
def ae0:Reads enc tP w base spare held 62 [false,false,false,false,false,false,false]:=zh underlying62 λj k h=>by
 match j,h with
 |0,h=>exact⟨0,_,0,[false],rfl,rfl,(show _<tP.cellsOf 3 by rw[cl3];decide),h,mg underlying3⟩
 |1,h=>exact⟨1,_,0,[false],rfl,rfl,(show _<tP.cellsOf 3 by rw[cl3];decide),h,mg underlying3⟩
 |2,h=>exact⟨2,_,0,[false,false],rfl,rfl,(show _<tP.cellsOf 32 by rw[wX];decide),h,wY⟩
 |3,h=>exact⟨2,_,1,[false,false],rfl,rfl,(show _<tP.cellsOf 32 by rw[wX];decide),h,wY⟩
 |4,h=>exact⟨3,_,0,[false,false],rfl,rfl,(show _<tP.cellsOf 32 by rw[wX];decide),h,wY⟩
 |5,h=>exact⟨3,_,1,[false,false],rfl,rfl,(show _<tP.cellsOf 32 by rw[wX];decide),h,wY⟩
 |6,h=>exact⟨4,_,0,[false],rfl,rfl,(show _<tP.cellsOf 60 by rw[aeX];decide),h,mg underlying60⟩
 |j+7,h=>simp at h
def ae1:Reads enc tP w base spare held 44 [false,false,true]:=zh underlying44 λj k h=>by
 match j,h with
 |0,h=>exact⟨0,_,0,[false],rfl,rfl,(show _<tP.cellsOf 3 by rw[cl3];decide),h,mg underlying3⟩
 |1,h=>exact⟨1,_,0,[false],rfl,rfl,(show _<tP.cellsOf 3 by rw[cl3];decide),h,mg underlying3⟩
 |2,h=>exact⟨2,_,0,[true],rfl,rfl,(show _<tP.cellsOf 9 by rw[cl9];decide),h,P7 underlying9⟩
 |j+3,h=>simp at h
def ae2(h:Al1 enc tP w base spare held fuel 22 cs=some x):∃c a,∃l:List Zn,cs=[.slice c l.length a]/\l.length<=a/\a<=Akv/\
 ∀(i:Nat) (z:Zn),l[i]? =some z->∃b o,c=some ⟨b,o,none⟩/\w.cell? ⟨b,o+i*4,none⟩=some (.int qi z.far)/\w.cell? ⟨b,o+i*4+1,none⟩=some (.int qi z.day)/\w.cell? ⟨b,o+i*4+2,none⟩=some (.int qi z.night)/\w.cell? ⟨b,o+i*4+3,none⟩=some (.int qi z.least):=by
 obtain⟨c,d,a,rfl,v,h2,m⟩:=CY underlying22 xD zE aeY h;obtain⟨l,rfl,y⟩:=yZ d (P:=λi (z:Zn)=>∃b o,c=some ⟨b,o,none⟩/\w.cell? ⟨b,o+i*4,none⟩=some (.int qi z.far)/\w.cell? ⟨b,o+i*4+1,none⟩=some (.int qi z.day)/\w.cell? ⟨b,o+i*4+2,none⟩=some (.int qi z.night)/\w.cell? ⟨b,o+i*4+3,none⟩=some (.int qi z.least)) λi p=>by obtain⟨b,o,e,h4⟩:=m i p;obtain⟨_,c0,q,rfl⟩:=h4 0 _ rfl;obtain⟨_,c1,r,rfl⟩:=h4 1 _ rfl;obtain⟨_,f,s,rfl⟩:=h4 2 _ rfl;obtain⟨_,g,u,rfl⟩:=h4 3 _ rfl;exact⟨⟨q,r,s,u⟩,b,o,e,c0,c1,f,g⟩
 grind
def ae3(h:Al1 enc tP w base spare held fuel 23 cs=some x):∃c a,∃l:List Ln,cs=[.slice c l.length a]/\l.length<=a/\a<=Akv/\
 ∀(i:Nat) (z:Ln),l[i]? =some z->(∃b o,c=some ⟨b,o,none⟩/\w.cell? ⟨b,o+i*4,none⟩=some (.string z.name)/\w.cell? ⟨b,o+i*4+1,none⟩=some (.int qi z.digits)/\w.cell? ⟨b,o+i*4+2,none⟩=some (.int qi z.s0)/\w.cell? ⟨b,o+i*4+3,none⟩=some (.int qi z.s1))/\z.name.size<=Akv:=by
 obtain⟨c,d,a,rfl,y,h2,m⟩:=CY underlying23 xD zE aeZ h;obtain⟨l,rfl,A⟩:=yZ d (P:=λi (z:Ln)=>(∃b o,c=some ⟨b,o,none⟩/\w.cell? ⟨b,o+i*4,none⟩=some (.string z.name)/\w.cell? ⟨b,o+i*4+1,none⟩=some (.int qi z.digits)/\w.cell? ⟨b,o+i*4+2,none⟩=some (.int qi z.s0)/\w.cell? ⟨b,o+i*4+3,none⟩=some (.int qi z.s1))/\z.name.size<=Akv) λi p=>by obtain⟨b,o,e,h4⟩:=m i p;obtain⟨_,c0,r,rfl,q⟩:=h4 0 _ rfl;obtain⟨_,c1,s,rfl⟩:=h4 1 _ rfl;obtain⟨_,f,u,rfl⟩:=h4 2 _ rfl;obtain⟨_,g,v,rfl⟩:=h4 3 _ rfl;exact⟨⟨r,s,u,v⟩,⟨b,o,e,c0,c1,f,g⟩,q⟩
 grind
def ae4(h:Al1 enc tP w base spare held fuel 24 cs=some x):∃c a,∃l:List Cl,cs=[.slice c l.length a]/\l.length<=a/\a<=Akv/\
 ∀(i:Nat) (z:Cl),l[i]? =some z->∃b o,c=some ⟨b,o,none⟩/\w.cell? ⟨b,o+i*7,none⟩=some (.int qi z.line)/\w.cell? ⟨b,o+i*7+1,none⟩=some (.int qi z.far)/\w.cell? ⟨b,o+i*7+2,none⟩=some (.int qi z.a0)/\w.cell? ⟨b,o+i*7+3,none⟩=some (.int qi z.a1)/\
 w.cell? ⟨b,o+i*7+4,none⟩=some (.int qi z.c0)/\w.cell? ⟨b,o+i*7+5,none⟩=some (.int qi z.c1)/\w.cell? ⟨b,o+i*7+6,none⟩=some (.int qi z.made):=by
 obtain⟨c,d,a,rfl,F,h2,r⟩:=CY underlying24 xD zE ae0 h;obtain⟨l,rfl,G⟩:=yZ d (P:=λi (z:Cl)=>∃b o,c=some ⟨b,o,none⟩/\w.cell? ⟨b,o+i*7,none⟩=some (.int qi z.line)/\w.cell? ⟨b,o+i*7+1,none⟩=some (.int qi z.far)/\w.cell? ⟨b,o+i*7+2,none⟩=some (.int qi z.a0)/\w.cell? ⟨b,o+i*7+3,none⟩=some (.int qi z.a1)/\
  w.cell? ⟨b,o+i*7+4,none⟩=some (.int qi z.c0)/\w.cell? ⟨b,o+i*7+5,none⟩=some (.int qi z.c1)/\w.cell? ⟨b,o+i*7+6,none⟩=some (.int qi z.made)) λi s=>by
  obtain⟨b,o,e,h4⟩:=r i s;obtain⟨_,c0,u,rfl⟩:=h4 0 _ rfl;obtain⟨_,c1,v,rfl⟩:=h4 1 _ rfl;obtain⟨_,f,y,rfl⟩:=h4 2 _ rfl;obtain⟨_,g,A,rfl⟩:=h4 3 _ rfl;obtain⟨_,m,C,rfl⟩:=h4 4 _ rfl;obtain⟨_,p,D,rfl⟩:=h4 5 _ rfl;obtain⟨_,q,E,rfl⟩:=h4 6 _ rfl;exact⟨⟨u,v,y,A,C,D,E⟩,b,o,e,c0,c1,f,g,m,p,q⟩
 grind
def ae5(h:Al1 enc tP w base spare held fuel 25 cs=some x):∃c a,∃l:List Pt,cs=[.slice c l.length a]/\l.length<=a/\a<=Akv/\
 ∀(i:Nat) (z:Pt),l[i]? =some z->(∃b o,c=some ⟨b,o,none⟩/\w.cell? ⟨b,o+i*3,none⟩=some (.int qi z.line)/\w.cell? ⟨b,o+i*3+1,none⟩=some (.int qi z.at_)/\w.cell? ⟨b,o+i*3+2,none⟩=some (.string z.shows))/\z.shows.size<=Akv:=by
 obtain⟨c,d,a,rfl,u,h2,g⟩:=CY underlying25 xD zE ae1 h;obtain⟨l,rfl,v⟩:=yZ d (P:=λi (z:Pt)=>(∃b o,c=some ⟨b,o,none⟩/\w.cell? ⟨b,o+i*3,none⟩=some (.int qi z.line)/\w.cell? ⟨b,o+i*3+1,none⟩=some (.int qi z.at_)/\w.cell? ⟨b,o+i*3+2,none⟩=some (.string z.shows))/\z.shows.size<=Akv) λi m=>by obtain⟨b,o,e,h4⟩:=g i m;obtain⟨_,c0,q,rfl⟩:=h4 0 _ rfl;obtain⟨_,c1,r,rfl⟩:=h4 1 _ rfl;obtain⟨_,f,s,rfl,p⟩:=h4 2 _ rfl;exact⟨⟨q,r,s⟩,⟨b,o,e,c0,c1,f⟩,p⟩
 grind
end
structure Iw (w:wD) (V:BkV):Prop where
 za:aJ w V.za
 la:aJ w V.la
 ca:aJ w V.ca
 pa:aJ w V.pa
theorem ae6{P:Program}{r:Reach}{b0:Nat}{u:tI}{g:Option Addr}{l c:Nat}(h3:P.underlying u=some (.slice e))(hc:Cell.okWide P w r b0 u (.slice g l c)):aJ w g:=λa i=>by
 subst i;simp only[Cell.okWide,h3,Cell.ok]at hc;obtain⟨_,_,_,_,m,d,f,_⟩:=hc;unfold World.shape? at f
 grind
def ae7{H:Type}{enc:tI×vL->H}{base b0:Nat}{spare:Nat->Bool}{held:Bool}{r:Reach}{v:vL}{d:DataW H}{p:List Al3}(M:Alz tP w r b0 27 v)(h:DataW.Trod enc tP w base spare held 27 v d p):∃V B,v=V.val B/\kM w V B/\Iw w V:=by
 obtain⟨cs,rfl,L⟩:=okWide_struct underlying27 M;obtain⟨v0,v1,v2,v3,v4,v5,v6,rfl⟩:=aeW (L.trans xD);obtain⟨fuel,hf⟩:=h;obtain⟨ys,n,_,_,_,N,a⟩:=Alv underlying27 hf
 match ys,N with
 |[y0,y1,y2,y3,y4,y5,y6],_=>
 have G:tP.cellsOf 3=1:=xD
 have C:tP.cellsOf 22=1:=xD
 have D:tP.cellsOf 23=1:=xD
 have E:tP.cellsOf 24=1:=xD
 have F:tP.cellsOf 25=1:=xD
 have h0:Al1 enc tP w base spare held n 3 [v0]=some y0:=by have:=a 0 _ rfl;simpa[Al0,G]using this
 have J:Al1 enc tP w base spare held n 3 [v1]=some y1:=by have:=a 1 _ rfl;simpa[Al0,G]using this
 have h2:Al1 enc tP w base spare held n 3 [v2]=some y2:=by have:=a 2 _ rfl;simpa[Al0,G]using this
 have h3:Al1 enc tP w base spare held n 22 [v3]=some y3:=by have:=a 3 _ rfl;simpa[Al0,C]using this
 have h4:Al1 enc tP w base spare held n 23 [v4]=some y4:=by have:=a 4 _ rfl;simpa[Al0,D]using this
 have h5:Al1 enc tP w base spare held n 24 [v5]=some y5:=by have:=a 5 _ rfl;simpa[Al0,E]using this
 have h6:Al1 enc tP w base spare held n 25 [v6]=some y6:=by have:=a 6 _ rfl;simpa[Al0,F]using this
 obtain⟨q,S,_⟩:=Aly underlying3 h0;obtain⟨g,T,_⟩:=Aly underlying3 J;obtain⟨m,U,_⟩:=Aly underlying3 h2;obtain⟨za,zc,zl,X,z1,z2,z3⟩:=ae2 h3;obtain⟨la,lc,ll,Y,l1,l2,l3⟩:=ae3 h4;obtain⟨Q,cc,R,Z,k1,k2,k3⟩:=ae4 h5;obtain⟨pa,pc,pl,e6,p1,p2,p3⟩:=ae5 h6;simp only[List.cons.injEq,and_true]at S T U X Y Z e6;subst S T U X Y Z e6;refine⟨⟨za,la,Q,pa,zc,lc,cc,pc⟩,⟨q,g,m,zl,ll,R,pl⟩,by simp[BkV.val],⟨⟨z3,λi z s=>(l3 i z s).1,k3,λi z s=>(p3 i z s).1⟩,Nat.le_trans z1 z2,⟨l1,l2⟩,Nat.le_trans k1 k2,Nat.le_trans p1 p2,λx hx=>?_,λx hx=>?_⟩,?_⟩
 ·obtain⟨i,s⟩:=List.getElem?_of_mem hx
  grind
 ·obtain⟨i,s⟩:=List.getElem?_of_mem hx
  grind
 simp only[Alz,underlying27]at M;obtain⟨cs,I,_,ts,y,_,K⟩:=M
 cases I
 have A:tP.cellTypes tP.depth 27=some [3,3,3,22,23,24,25]:=xD
 rw[A]at y
 cases y
 have f:∀(i:Nat) (O:Option Addr) (l c:Nat) (u e:tI),(#[Value.int qi q,.int qi g,.int qi m,.slice za zl.length zc,.slice la ll.length lc,.slice Q R.length cc,.slice pa pl.length pc]:Array vL)[i]? =some (.slice O l c)->([3,3,3,22,23,24,25]:List tI)[i % 7]? =some u->tP.underlying u=some (.slice e)->aJ w O:=by
  intro i O l c u e J h2 h3;obtain⟨u',hu,hc⟩:=K i _ J;have:u'=u:=by simp_all
  grind [ae6]
 exact⟨f 3 _ _ _ _ _ rfl rfl underlying22,f 4 _ _ _ _ _ rfl rfl underlying23,f 5 _ _ _ _ _ rfl rfl underlying24,f 6 _ _ _ _ _ rfl rfl underlying25⟩
end Go.Proofs.Y
namespace Go
open Go.Conc
def ae8{H:Type}{enc:tI×vL->H}{a:Assume}{C:Checked}{os:Os}{f:FuncId}{fn:Func}{s:ChangeSpec}{r:List PathCond}{d u m q:Bool}{X:wD->Array vL->Prop}(Y:∀(w w':wD) (c:Array vL),w.heap=w'.heap->X w c->X w' c)(Q:ownKnob C.prog.godebug=none)(y:os.Started)(Z:C.prog.funcs[f]? =some fn)(A:∃(w:wD) (g:Tape) (i:Input),w.os=os/\(w.forCall g i).Shaped C.prog/\i.vars=[]/\Input.okWide C.prog (w.forCall g i) .any w.heap.size f i/\
 ((s.pre enc C.prog fn r d (w.forCall g i).memory i.args/\X (w.forCall g i).memory i.args)/\sizedMet enc C.prog fn (OpenSpec.ofChange s) d (w.forCall g i).memory i.args)/\a.holds C.prog (lone (Ac9 C.prog f i.args .normal) [] (w.forCall g i)))(F:∀(W:wD) (base:Nat) (c:Array vL) (J L:List (DataW H)) (l:List Al3),
 (∀(j:Nat) t v,fn.params[j]? =some t->c[j]? =some v->Alz C.prog W .any base t v)->
 DataW.Whole enc C.prog fn.params.toList s.vars d W c.toList J L l->X W c->
 ∃M p o w' I,runNT C.prog (M+1) (solo (G (Ac9 C.prog f c .normal) []) W) #[]=(.ended o w',I)/\runN C.prog M (solo (G (Ac9 C.prog f c .normal) []) W)=.next p/\
  step C.prog p=.ended o w'/\Al2 C.prog (λv S=>s.post enc C.prog fn d u m q W c v S) p o w' I):
 ReturnsInLeavingWide a C os f .any (λw c=>(s.pre enc C.prog fn r d w c/\X w c)/\sizedMet enc C.prog fn (OpenSpec.ofChange s) d w c) (s.post enc C.prog fn d u m q):=by
 refine returnsInLeavingWide_of_good Q y A ?_;intro w g i _ _ _ N D _;obtain⟨_,_,_,K,R,_,_,_,_,E⟩:=N;have e:K=fn:=by grind
 subst e;obtain⟨⟨⟨J,L,l,hw,_⟩,hx⟩,_⟩:=D;have O:=DataW.Whole.of_heap (w':=w.forCall g i) (by rfl) hw;obtain⟨M,p,o,w',I,T,h2,U,h4⟩:=F (w.forCall g i) w.heap.size i.args J L l E O (Y _ _ _ (by rfl) hx);exact⟨M,p,o,w',I,T,h2,U,h4.mono λv hp=>ChangeSpec.post_blind hp⟩
end Go
namespace Go.Proofs.Y
open Go.RowKit Go.Meter Go.Tp Go.Conc Go.ConcN Go.ChangeShapes Go.WideShapes Go.ChangeAt
def ae9:ownKnob tP.godebug=none:=xD
def afa:laidOutB tP=true:=xD
def gl0:tP.globalNamed "baudot/meter.checks" =some 0:=xD
def gt0:(tP.globals[0]?).map (·.type)=some 173:=xD
def gsz:tP.globals.size=1:=xD
abbrev zi{H:Type}:List (String×DataW H):=[("baudot/meter.checks",Rows.laid_baudot_meter_checks)]
def door_met(os:Os)(args:Array vL):laidMetH tP zi ((World.doorLaid tP 600 os).forCall (λ_ _=>0) ⟨#[],args,[]⟩).memory:=
 laidMetH_of_parts3 (fuel:=8) (laidMet_of_run' 8 xD xD) xD xD
def afb{W:wD}(h:laidMetH tP zi W):dP W:=by
 obtain⟨g,t,cs,f,p,s,F,G,E⟩:=h.funcs (n:= "baudot/meter.checks") (List.mem_cons_self ..);obtain rfl:=Agy (gl0.symm.trans s);obtain rfl:=Agy (gt0.symm.trans F);obtain⟨xs,n,_,hx,c,r,m⟩:=DataW.trod_array underlying173 E;have d:tP.cellsOf 172=1:=xD
 have i:tP.cellsOf 173=5:=xD
 rw[i]at c;have a:∀{k:Nat} {v:vL},cs.toList[k]? =some v->W.cell? ⟨0,k,none⟩=some v:=λhk=>by
  rw[World.var?_cell s G]
  grind
 generalize hl:cs.toList=l at*
 match l,c,xs,r with
 |[a0,a1,a2,a3,a4],_,[x0,x1,x2,x3,x4],_=>have u:=m 0 zE;have y:=m 1 zE;have A:=m 2 zE;have C:=m 3 zE;have D:=m 4 zE;rw[d]at u y A C D;simp only[Prod.mk.injEq]at hx;have q:=hx.1;simp only[DataW.funcsOut,DataW.funcsOutAll,DataW.agg.injEq,List.map_cons,List.map_nil,List.cons.injEq,and_true]at q;obtain⟨y0,y1,y2,y3,y4⟩:=q;obtain⟨N,O⟩:=x0;obtain⟨Q,R⟩:=x1;obtain⟨S,T⟩:=x2;obtain⟨U,X⟩:=x3;obtain⟨Y,Z⟩:=x4;simp only at y0 y1 y2 y3 y4;subst y0 y1 y2 y3 y4;have I:=func_of_trod (f0:=237) underlying172 xD u;have J:=func_of_trod (f0:=238) underlying172 xD y;have K:=func_of_trod (f0:=239) underlying172 xD A;have L:=func_of_trod (f0:=240) underlying172 xD C;have M:=func_of_trod (f0:=241) underlying172 xD D;subst I J K L M;exact⟨a rfl,a rfl,a rfl,a rfl,a rfl⟩
section
variable {W:wD} {V:BkV} {B:Bk}
abbrev Iy(W:wD)(b:Nat):Prop:=mY (λ_=>True) W b
noncomputable abbrev wZ(W:wD):wD:=Ir tP W
def row_in{o:Option Addr}(h:aJ W o){a:Addr}(e:o=some a):Iy W a.block:=⟨trivial,h a e⟩
def CZ{o:Option Addr}(h:aJ W o):aJ (wZ W) o:=λa d=>by obtain⟨c,t,z,e⟩:=h a d;exact⟨_,_,_,by rw[AV,e];rfl⟩
def C9{o:Option Addr}(h:aJ W o)(n c:Nat):VR (tF tP) (RW W) (.slice o n c) (.slice o n c):=by
 cases o with
 |none=>exact mZ.vr trivial
 |some a=>exact mZ.vr (show Iy W a.block from row_in h rfl)
def afc(h:Iw W V):VR (tF tP) (RW W) (V.val B) (V.val B):=by
 refine .agg rfl λi x c e a=>?_;rw[e]at a;obtain rfl:=Agy a
 match i,e with
 |0,e|1,e|2,e=>simp at e;subst e;exact .int _ _
 |3,e=>simp at e;subst e;exact C9 h.za _ _
 |4,e=>simp at e;subst e;exact C9 h.la _ _
 |5,e=>simp at e;subst e;exact C9 h.ca _ _
 |6,e=>simp at e;subst e;exact C9 h.pa _ _
 |i+7,e=>simp at e
def afd{b o:Nat}{v:vL}(a:Imm v)(h:W.cell? ⟨b,o,none⟩=some v):(wZ W).cell? ⟨b,o,none⟩=some v:=EO h (by cases a<;>trivial)
def afe(h:dP W):dP (wZ W):=by have f:∀{o:Nat} {g:FuncId},tF tP g=true->W.cell? ⟨0,o,none⟩=some (.func (.func g) #[] #[])->(wZ W).cell? ⟨0,o,none⟩=some (.func (.func g) #[] #[]):=λa e=>EO e ⟨a,rfl,rfl⟩;exact⟨f xD h.c0,f xD h.c1,f xD h.c2,f xD h.c3,f xD h.c4⟩
def P8(h:dP W):tP.globals.size<=W.heap.size:=by rw[gsz];exact World.block_lt_of_cell? W _ h.c0
def aff(h:dP W)(b:Nat)(a:tG tP b=true):Iy W b:=by
 obtain rfl:b=0:=by
  have:(b==0)=true:=a
  grind
 exact⟨trivial,AX h.c0⟩
def afg(d:dP W)(a:kM W V B)(c:Iw W V):sS (wZ W) V B:=
 ⟨⟨a.at_.map λ_ _ _=>afd,a.nz,a.nl,a.nc,a.np,a.sn,a.sp⟩,afe d,CZ c.za,CZ c.la,CZ c.ca,CZ c.pa,by rw[EN];exact P8 d⟩
def afh{H:Type}{enc:tI×vL->H}{fn:Func}{s:ChangeSpec}{w':wD}{args:Array vL}{ds:List (DataW H)}{ps:List Al3}(d:fn.resultTypes=#[4])(l:DataW.Whole enc tP fn.params.toList s.vars false W args.toList ds [] ps)(a:∀g:wD,Below W.heap.size W g->∃pa,DataW.TrodAll enc tP g 0 (λb=>decide (b<W.heap.size)) true fn.params.toList args.toList ds pa)(f:s.vars=[])(c:s.fn H (ds++[])={results:=[.lit (.bool true)],args:=ds})(i:Below W.heap.size W w'):s.post enc tP fn false true false false W args (.bool true) w':=by
 obtain⟨pa,m⟩:=a w' i;refine⟨ds,[],ps,[],pa,[],l,?_,?_,?_,i.frame _,λh=>by cases h⟩
 ·rw[c,d];exact trodAll_mk1 (shut_bool underlying4 true)
 ·grind
 rw[f,c];rfl
def afi{f:FuncId}{fn:Func}{t:Tmp}{args:Array vL}{a:vL->wD->Prop}{K:wD->Prop}(u:tP.funcs[f]? =some fn)(y:tP.inits.idxOf? f=none)(g:fn.results=#[.tmp t])(m:dP W)(d:∀(i:Nat) v,args[i]? =some v->VR (tF tP) (RW W) v v)(h:bT tP f args (wZ W) λv l=>K l/\v=.bool true)(s:∀w,Below W.heap.size W w->a (.bool true) w):
 ∃M c o l p,runNT tP (M+1) (solo (G (Ac9 tP f args .normal) []) W) #[]=(.ended o l,p)/\runN tP M (solo (G (Ac9 tP f args .normal) []) W)=.next c/\step tP c=.ended o l/\Al2 tP a c o l p:=
 aeT u y g W args a (P8 m) (aff m) d (λw q h2 r h4 h5=>s w ⟨h2,q,r,h4,h5⟩) h
end
def afj(l:Looks){p:Pinned}{s:OpenSpec}{c:OpenClaim}(kinds:List LaidKind)(d:Bool)(a:Bool×String)(i:Bool)(hc:c.holds p s)(C:c.wfByText s=true)(g:c.laidByTextAt l p kinds d)(q:c.start=.entering)(m:c.noBlocks=false/\c.again=false)(A:p.checked.prog.mainIs=some (a.1,a.2.toList))(hn:(!a.1&&a.2.isEmpty&& !i)=false)(y:∀f r,p.checked.prog.funcNamed c.func=some f->p.checked.prog.funcs[f]? =some r->i=p.checked.prog.looks []/\∀(j:Nat) t,r.params[j]? =some t->p.checked.prog.wantsStandIn t=false)(v:true=c.goesBy p.checked.prog):
 Claim7.holds p (.plain s) {stood:={row:=c,standIns:=[],harness:=a,looks:=i},kinds:=[],laidByText:=true,laidKinds:=kinds,laidTests:=d,laidLooks:=l,goes:=true}:=by
 have h6:Claim7.isSixth {stood:={row:=c,standIns:=[],harness:=a,looks:=i},kinds:=[]}=false:=by simpa[Claim7.isSixth]using hn
 exact⟨Claim7.tied_new_at l kinds d (Claim7.new_of_sixth hc a i q m A h6 y) C,(λD u=>by cases u),g,(λh=>by cases h),v⟩
end Go.Proofs.Y
