/- Part; no conditions. -/
import Derived.Test.YtokgkggocgpcfaaGreatDoorCheap11
open List renaming getElem?_eq_getElem->lG,drop_eq_getElem_cons->Ahw,getElem?_take_of_lt->Aim,drop_of_length_le->Ahy,append_toArray->Akw,push_toArray->Akx,take_add_one->Ak5,cons_append->Akn,all_eq_true->Ah8,map_toArray->Ak7,nil_append->Akp,mem_range->Aid,map_cons->Ai6,mem_cons->Ab3,range->Aes,getElem?_eq_some_iff->lS,getD_eq_getElem?_getD->lD
open Classical renaming byContradiction->Ad3
open Array renaming getElem?_toList->Ak2,replicate_succ->Ags,replicate_zero->Agt,empty_append->Ak3,replicate->Afc
open Option renaming isSome_none->Ak4,getD_some->Agx
open Nat renaming le_refl->nR,lt_of_lt_of_le->Ajg,reduceAdd->Akz,zero_le->Aih
open Bool renaming false_eq_true->kF,or_eq_true->Afd,eq_iff_iff->Ai4
open Go.Instr renaming takeDeferred->sU,beginRound->Aar,enterLoop->Aa1,endRound->Abh,getLoop->Abx,endLoop->Aby,yield->Aer
open Go.World renaming block_lt_of_cell?->wBk,ownsRow_nil->Aiz,cell?->Aeq
open Go.Result renaming andThen_ok->Ak6,andThen->Ak9
open Go.Frame renaming finish_at->Ag0,enter->Ac9,«at»->Ahr
open Go.Value renaming oneCell'->Ak8,bool->Ahl
open Go.Region renaming wanted->Ag2
open Go.Conc renaming base->Aks,Leavers->Alb
open Go.Sem renaming run_bind->Ala,runT_fst->Ajj
open Go.stepG renaming exec->Afu
open Go renaming Addr->aD,Calls->cF,Frame->fR,Goroutine->gO,Program->pQ,Value->vL,World->wD,undef->ud
open Go.RowKit renaming Below->bX
open Go.IntKind renaming i64->qi
open Go.Ending renaming returned->rT
open Go.Lib renaming hid->lH
open Go.RowKit.Below renaming refl->bR
open Go.Proofs.Tryz renaming prog->tP
open Go.Proofs.Tryz
set_option maxRecDepth 100000
set_option maxHeartbeats 4000000
noncomputable section
set_option linter.all false
namespace Go.Proofs.Y
open Go.RowKit Go.Tp Go.Meter Go.Conc Go.ConcN
variable {v:vL} {w:wD} {R:vL->wD->Prop} {n:Int}
def yQ(e:wD)(d:Int)(P:wD->vL->Prop)(v:vL)(w:wD):Prop:=Kp e w/\∃x,v=.tuple #[x,.int qi d]/\(¬d=0->x=.slice none 0 0)/\(d=0->P w x)
theorem yQ.tp{p:wD}{g:Int}{P:wD->vL->Prop}(s:∀u m x,Kp u m->P u x->P m x){τ:Nat->Question->Nat}{d:Nat}(h:yQ p g P v (w.tp τ d noJ)):yQ p g P v w:=⟨Kp.tp_r.1 h.1,let ⟨x,q,h2,r⟩:=h.2;⟨x,q,h2,λe=>s _ _ x (Kp.tp_l.2 (.refl _)) (r e)⟩⟩
def rZ(l:List (Int×Int)):List vL:=l.flatMap λx=>[.int qi x.1,.int qi x.2]
def su(w:wD)(l:List (Int×Int))(v:vL):Prop:=∃d pc,v=.slice d l.length pc/\(∀i x,l[i]? =some x->∃b,d=some ⟨b,0,none⟩/\w.cell? ⟨b,i*2,none⟩=some (.int qi x.1)/\w.cell? ⟨b,i*2+1,none⟩=some (.int qi x.2))/\aJ w d
theorem su.kp{u:wD}{l:List (Int×Int)}(h:su w l v)(k:Kp w u):su u l v:=let ⟨q,pc,m,h2,p⟩:=h;⟨q,pc,m,λi x hx=>let ⟨b,d,e,g⟩:=h2 i x hx;⟨b,d,k.cell e,k.cell g⟩,p.kp k⟩
theorem Oz:∀(l:List (Int×Int)) (i:Nat) (x:Int×Int),l[i]? =some x->(rZ l)[i*2]? =some (.int qi x.1)/\(rZ l)[i*2+1]? =some (.int qi x.2)
 |[],i,x,h=>by cases h
 |y::l,0,x,h=>by cases h;exact⟨rfl,rfl⟩
 |y::l,i+1,x,h=>by
  have:=Oz l i x h;have e:rZ (y::l)=.int qi y.1:: .int qi y.2::rZ l:=rfl
  grind
def abC{base:Nat}{l:List (Int×Int)}(h:w.ownsRow base 32 2 v l.length (rZ l)):su w l v:=by
 rcases h.2 with⟨rfl,m⟩|⟨g,d,e,rfl,q,h2,r,h4,h5,h6⟩
 ·refine⟨none,0,by rw[m],λi x hx=>?_,λx hx=>by cases hx⟩
  grind
 refine⟨some ⟨g,0,none⟩,d,rfl,λi x hx=>⟨g,rfl,?_⟩,λx hx=>by cases hx;exact⟨_,_,_,h2⟩⟩;have A:=(lS.1 hx).1;have s:=Oz l i x hx;have p:∀j y,j<l.length*2->(rZ l)[j]? =some y->e[j]? =some y:=λj y C D=>by grind
 grind [Aeq]
def abD:(tP.info? 32).map (λi=>(i.zero,i.size,i.bytes))=some (some (.agg #[.int qi 0,.int qi 0]),2,16):=xD
def pq(B:Bk)(k:Nat):Int->List Int->List (Int×Int)
 |_,[]=>[]
 |l,t::ts=>iY B k l t::pq B k t ts
def lastT(l:Int)(T:List Int)(j:Nat):Int:=if j=0 then l else T.getD (j-1) 0
theorem OA{B:Bk}{k:Nat}:∀(T:List Int) (l:Int) (j:Nat),j<T.length->(pq B k l T)[j]? =some (iY B k (lastT l T j) (T.getD j 0))
 |[],_,_,h=>by simp at h
 |t::T,l,0,_=>rfl
 |t::T,l,j+1,h=>by
  have:=OA (B:=B) (k:=k) T t j (by grind)
  show (pq B k t T)[j]? =_
  rw[this]
  congr 2
  unfold lastT
  grind
theorem OC{B:Bk}{k:Nat}:∀(T:List Int) (l:Int),(pq B k l T).length=T.length
 |[],_=>rfl
 |t::T,l=>by show (pq B k t T).length+1=_;rw[OC T t];rfl
theorem OD{T:List Int}:∀(n i:Nat),uz T n i=0->∀j,i<=j->j<i+n->0<=T.getD j 0/\T.getD j 0<=200
 |0,i,_,j,h1,h2=>by omega
 |n+1,i,h,j,h1,h2=>by
  unfold uz at h
  split at h
  ·cases h
  split at h
  ·cases h
  rename_i d _;by_cases e:j=i
  ·subst e;exact bJ (by grind)
  exact OD n (i+1) h j zP zP
def OE{T:List Int}(h:aW T=0):(1<=T.length/\T.length<=4)/\∀j,j<T.length->0<=T.getD j 0/\T.getD j 0<=200:=by
 unfold aW at h
 split at h
 ·cases h
 rename_i d;have h2:btw (T.length:Int) 1 4=true:=by cases e:btw (T.length:Int) 1 4<;>simp_all
 have:=bJ h2;exact⟨zP,λj g=>OD _ 0 h j zP zP⟩
section
variable {w:wD} {V:BkV} {B:Bk} {T:List Int} {ta:Option aD} {tc:Nat}
def qI:Code:=(f21.body).getD .skip
def biA:Code:=sqL qI
def biE:Code:=sqL (sqR qI)
def biF:Code:=sqR (sqR qI)
def abE{k:List Item}(K:∀m w1 (g:Nat),Sl m 45 [(3,.pointer (some ⟨g,0,none⟩)),(1,.int qi n),(2,.slice ta T.length tc)]->Kp w w1->Cells w1 (aB g V B)->GLb tP (Aks 21) k R m w1):
 GLb tP (Aks 21) (.code biA::k) R {tmps:=#[V.val B,.int qi n,.slice ta T.length tc]++Afc (f21.ntmps-3) ud,defers:=[]} w:=by
 refine fP (S:=λa w1=>∃g:Nat,Sl a 45 [(3,.pointer (some ⟨g,0,none⟩)),(1,.int qi n),(2,.slice ta T.length tc)]/\Kp w w1/\Cells w1 (aB g V B)) ⟨f21,rfl,xD⟩ xN rfl xD xD (λa w1 s d ⟨g,p,h2,q⟩=>⟨g,p,Kp.tp_r.1 h2,gX.1 q⟩) (λs=>?_) λm w1 _ ⟨g,p,h2,q⟩=>K m w1 g p h2 q;obtain⟨W,r⟩:∃W,W=w.tp s 0 noJ:=⟨_,rfl⟩;have A:Kp w W:=by rw[r];exact Kp.tp_r.2 (.refl _)
 rw[<-r];clear r;obtain⟨za,la,C,pa,zc,lc,cc,pc⟩:=V;simp only[biA,sqL,qI,f21,Agx,Ags,Agt,Akx,Akw,Akp,Akn,Nat.reduceSub];go_wp2;refine⟨W.heap.size,xT,?_,?_⟩
 ·iterate 1 refine Kp.trans ?_ (Kp.alloc _ _)
  exact A
 simp only[aB,Cells,and_true];go_simp
def abG:List Nat:=[4,5,6,7,8,9,10,0,0,1,2,3,2,2]
def abH{k:List Item}{a:Act}{w1:wD}{O:Nat}(hT:aF w1 ta T)(X:GBk w V B)(hS:Sl a 45 [(3,.pointer (some ⟨O,0,none⟩)),(1,.int qi n),(2,.slice ta T.length tc)])(U:Kp w w1)(hc:Cells w1 (aB O V B))(K:∀J s,Sl J 45 [(3,.pointer (some ⟨O,0,none⟩)),(1,.int qi n),(2,.slice ta T.length tc)]->Kp w1 s->J.tmps[9]?.getD ud=.int qi (aA B (btw n 0 ((B.L.length:Int)-1)) (aW T))->fQ w.heap.size w1.heap.size V B (aA B (btw n 0 ((B.L.length:Int)-1)) (aW T)) (J.tmps[8]?.getD ud) s->GLb tP (Aks 21) k R J s):GLb tP (Aks 21) (.code biE::k) R a w1:=by
 have N:(Aks 21).kind≠.early:=by intro e;cases e
 have ab:=X.bk.nl;simp only[biE,sqL,sqR,qI,f21,Agx];refine uH rfl hS [[],[],[1],[],[2,3],[],[5,4],[0,4,6],[7],[8],[8],[],[11,9,7,0,1,2,3,4,5,6,8],[10,12,0,1,2,3,4,5,6,7,8,9,11]] ([some 15,some 16,some 17,some 18,some 19,some 20,some 21,some 22,some 14,some 23,some 24,some 8,none,some 9]:List (Option Nat)) (λi v u=>aN w.heap.size w1.heap.size V B (aA B (btw n 0 ((B.L.length:Int)-1)) (aW T)) [(V.val B:vL),(V.val B:vL),(V.val B:vL),(.int qi n:vL),(.bool (btw n 0 ((B.L.length:Int)-1)):vL),(.slice ta T.length tc:vL),(.int qi (aW T):vL)] v u (abG.getD i 0)) 12 11 (fQ w.heap.size w1.heap.size V B (aA B (btw n 0 ((B.L.length:Int)-1)) (aW T))) xD xD (ks:=[3,1,2]) rfl xD zE zE ⟨zE,zE⟩ rfl ?_ ?_ λJ s D h2 W h4=>K J s D h2 (W 13 zE zE) h4
 ·intro fd a1 s i rest M L g m hi r C K;obtain⟨_,_,s3,s1,s2,_⟩:=L;have Z:=g.cells hc;obtain⟨q0,q1,q2,q3,q4,q5,q6,-⟩:=Z;have Y:=X.kp (U.trans g);have aa:=(U.trans g).size
  match i,hi with
  |0,_=>exact kpk (V.val B) (okA rfl) (λA d=>by simp[go_sem,aT,s3,q0,q1,q2,q3,q4,q5,q6]) rfl g K
  |1,_=>exact kpk (V.val B) (okA rfl) (λA d=>by simp[go_sem,aT,s3,q0,q1,q2,q3,q4,q5,q6]) rfl g K
  |2,_=>have v1:a1.tmps[16]?.getD ud=V.val B:=m 1 zE zE (r 1 zE);exact kpk (V.val B) (okA rfl) (λA d=>by simp[go_sem,v1]) rfl g K
  |3,_=>exact kpk (.int qi n) (okA rfl) (λA d=>by simp[go_sem,s1]) rfl g K
  |4,_=>
   have v2:a1.tmps[17]?.getD ud=V.val B:=m 2 zE zE (r 2 zE);have v3:a1.tmps[18]?.getD ud=.int qi n:=m 3 zE zE (r 3 zE);refine iW (Ri:=λv _=>v=.bool (btw n 0 ((B.L.length:Int)-1))) (f:=82) (fn:=f82) rfl rfl rfl rfl rfl rfl N rfl xD (λ_ _ _ _ h=>h) (λA=>?_) (λu H=>⟨λj _ _ _ _ h=>h.kp H,λG=>absurd rfl (C G 4 zE)⟩) g K;have e:(#[Operand.tmp 17,.tmp 18]:Array Operand).map a1.eval=#[V.val B,.int qi n]:=by simp[Act.eval,v2,v3]
   rw[e];exact(c82 V B n (s.tp A 0 noJ) ab).mono λe w' ⟨D,h2⟩=>⟨_,D,Kp.below_tp h2,rfl⟩
  |5,_=>exact kpk (.slice ta T.length tc) (okA rfl) (λA d=>by simp[go_sem,s2]) rfl g K
  |6,_=>
   have v5:a1.tmps[20]?.getD ud=.slice ta T.length tc:=m 5 zE zE (r 5 zE);refine iW (Ri:=λv _=>v=.int qi (aW T)) (f:=87) (fn:=f87) rfl rfl rfl rfl rfl rfl N rfl xD (λ_ _ _ _ h=>h) (λA=>?_) (λu H=>⟨λj _ _ _ _ h=>h.kp H,λG=>absurd rfl (C G 6 zE)⟩) g K;have e:(#[Operand.tmp 20]:Array Operand).map a1.eval=#[.slice ta T.length tc]:=by simp[Act.eval,v5]
   rw[e];exact(c87 T ta tc (s.tp A 0 noJ) (aF.tp.2 (hT.kp g))).mono λe w' ⟨D,h2⟩=>⟨_,D,Kp.below_tp h2,rfl⟩
  |7,_=>
   have v0:a1.tmps[15]?.getD ud=V.val B:=m 0 zE zE (r 0 zE);have v4:a1.tmps[19]?.getD ud=.bool (btw n 0 ((B.L.length:Int)-1)):=m 4 zE zE (r 4 zE);have v6:a1.tmps[21]?.getD ud=.int qi (aW T):=m 6 zE zE (r 6 zE);refine o8 (Ri:=λv u=>aN w.heap.size w1.heap.size V B (aA B (btw n 0 ((B.L.length:Int)-1)) (aW T)) [(V.val B:vL),(V.val B:vL),(V.val B:vL),(.int qi n:vL),(.bool (btw n 0 ((B.L.length:Int)-1)):vL),(.slice ta T.length tc:vL),(.int qi (aW T):vL)] v u 0) (f:=81) (fn:=f81) rfl rfl rfl rfl rfl rfl N rfl xD ?_ (λu H=>⟨λj _ _ _ _ h=>h.kp H,λG=>absurd rfl (C G 7 zE)⟩) g K;have e:(#[Operand.tmp 15,.tmp 19,.tmp 21]:Array Operand).map a1.eval=#[V.val B,.bool (btw n 0 ((B.L.length:Int)-1)),.int qi (aW T)]:=by simp[Act.eval,v0,v4,v6]
   rw[e];exact uI Y _ _ aa
  |8,_=>have v7:aN w.heap.size w1.heap.size V B (aA B (btw n 0 ((B.L.length:Int)-1)) (aW T)) [] (a1.tmps[22]?.getD ud) s 0:=m 7 zE zE (r 7 zE);exact kpk (a1.tmps[22]?.getD ud) (okA rfl) (λA d=>by simp[go_sem]) v7 g K
  |9,_=>have v8:aN w.heap.size w1.heap.size V B (aA B (btw n 0 ((B.L.length:Int)-1)) (aW T)) [] (a1.tmps[14]?.getD ud) s 0:=m 8 zE zE (r 8 zE);obtain⟨y,y1,y2⟩:=v8;exact kpk y (okA rfl) (λA d=>by simp[go_sem,y1]) y2 g K
  |10,_=>have v8:aN w.heap.size w1.heap.size V B (aA B (btw n 0 ((B.L.length:Int)-1)) (aW T)) [] (a1.tmps[14]?.getD ud) s 0:=m 8 zE zE (r 8 zE);obtain⟨y,y1,y2⟩:=v8;exact kpk (.int qi (aA B (btw n 0 ((B.L.length:Int)-1)) (aW T))) (okA rfl) (λA d=>by simp[go_sem,y1]) rfl g K
  |11,_=>
   refine rV (.pointer (some ⟨s.heap.size,0,none⟩)) (.cells #[.int qi 0,.int qi 0,.int qi 0,.slice none 0 0,.slice none 0 0,.slice none 0 0,.slice none 0 0,.map none,.slice none 0 0] 118) (okA rfl) N rfl (λA d=>?_) (λu H=>⟨λj _ _ _ _ h=>h.kp H,λG=>absurd rfl (C G 11 zE)⟩) g ⟨s.heap.size,_,rfl,g.size,last_at rfl,rfl⟩ K λe=>by cases e
   simp[go_sem];rw[aP]
  |13,_=>have I:aN w.heap.size w1.heap.size V B (aA B (btw n 0 ((B.L.length:Int)-1)) (aW T)) [] (a1.tmps[24]?.getD ud) s 2:=m 10 zE zE (r 10 zE);replace I:a1.tmps[24]?.getD ud=.int qi (aA B (btw n 0 ((B.L.length:Int)-1)) (aW T)):=I;exact kpk (.int qi (aA B (btw n 0 ((B.L.length:Int)-1)) (aW T))) (okA rfl) (λA d=>by simp[go_sem,I]) rfl g K
  |12,_=>exact absurd rfl M
 intro fd a1 s rest L g m r K;have v3:aN w.heap.size w1.heap.size V B (aA B (btw n 0 ((B.L.length:Int)-1)) (aW T)) [(V.val B:vL),(V.val B:vL),(V.val B:vL),(.int qi n:vL),(.bool (btw n 0 ((B.L.length:Int)-1)):vL),(.slice ta T.length tc:vL),(.int qi (aW T):vL)] (a1.tmps[8]?.getD ud) s 3:=m 11 zE zE (r 11 zE);have v1:aN w.heap.size w1.heap.size V B (aA B (btw n 0 ((B.L.length:Int)-1)) (aW T)) [(V.val B:vL),(V.val B:vL),(V.val B:vL),(.int qi n:vL),(.bool (btw n 0 ((B.L.length:Int)-1)):vL),(.slice ta T.length tc:vL),(.int qi (aW T):vL)] (a1.tmps[23]?.getD ud) s 1:=m 9 zE zE (r 9 zE);refine uJ (p:=8) (q:=23) (okA rfl) rfl N rfl (X.kp U) g v3 v1 λw3 D h2 W=>K w3 D (λj _ _ _ h=>h2 _ _ h) W
def gJ(B:Bk)(n:Int)(T:List Int):Int:=aA B (btw n 0 ((B.L.length:Int)-1)) (aW T)
def yS(w:wD)(B:Bk)(n:Int)(T:List Int):vL->wD->Prop:=yQ w (gJ B n T) λu x=>su u (pq B n.toNat 0 T) x
def abI{a:Act}{w1:wD}{b3 n1:Nat}(hd:a.defers=[])(hS:Sl a 45 [(3,.pointer (some ⟨b3,0,none⟩)),(1,.int qi n),(2,.slice ta T.length tc)])(h0:Kp w w1)(hT:aF w1 ta T)(e9:a.tmps[9]?.getD ud=.int qi (gJ B n T))(ay:fQ w.heap.size n1 V B (gJ B n T) (a.tmps[8]?.getD ud) w1)(hR:∀v w',yS w B n T v w'->R v w'):GLb tP (Aks 21) [.code biF] R a w1:=by
 refine o7 (fn:=f21) (Q:=yS w B n T) rfl xD xN hd xD xD (λv w' τ d h=>yQ.tp (λu u' x k h=>h.kp k) h) (λτ=>?_) hR;obtain⟨W,hW⟩:∃W,W=w1.tp τ 0 noJ:=⟨_,rfl⟩;obtain⟨b8,l,e8,_,hO,aE,q⟩:=ay;replace h0:Kp w W:=by rw[hW];exact Kp.tp_r.2 h0
 replace hT:aF W ta T:=by rw[hW];exact aF.tp.2 hT
 replace hO:bQ w.heap.size V B (gJ B n T) (.agg l) W:=by rw[hW];exact bQ.tp.2 hO
 replace q:W.heap[b8]? =some (.cells l 118 (0,0)):=by rw[hW,aP];exact q
 rw[<-hW];clear hW;have D:Sl a 45 [(9,.int qi (gJ B n T)),(8,.pointer (some ⟨b8,0,none⟩)),(1,.int qi n),(2,.slice ta T.length tc)]:=⟨hS.1,hS.2.1,e9,e8,hS.2.2.2⟩;have H0:=lH h0;by_cases p:gJ B n T=0
 ·obtain⟨hA,J,m,C,hl,s⟩:=hO.2 p;obtain⟨_,ag,ah,_⟩:=wJ p;have az:=bJ ag;obtain⟨aD,U⟩:=OE ah;have hF:=kK hA;obtain⟨k,rfl⟩:∃k:Nat,n=(k:Int):=⟨n.toNat,zP⟩;have hk:k<B.L.length:=zP
  have aa:=s.mlow;have aG:=s.kn.lt;obtain⟨es,cl,N⟩:=s.kn.isMap;rw[uK hl]at q;have ae:Cells W (cu b8 V B m C):=by simp only[cu,Cells,and_true];simp[Aeq,q]
  have HC:Hid (∀u,W.grownBy u (some m)->Cells u (cu b8 V B m C)):=lH λu hg=>ae.grown hg λj e=>by cases e;exact⟨es,cl,N⟩
  have av:Hid (∀j,j<T.length->∃b o,ta=some ⟨b,o,none⟩/\∀u,W.grownBy u (some m)->u.cell? ⟨b,o+j,none⟩=some (.int qi (T.getD j 0))):=lH λj L=>by obtain⟨b,o,e1,e2⟩:=hT j _ (lG L);refine⟨b,o,e1,λu hg=>?_⟩;have:=rJ hg (λj e=>by cases e;exact⟨es,cl,N⟩) e2;rw[this];simp[List.getD,lG L]
  have ai:Hid (∀(f t:Int) (u:wD),f<=200->t<=200->W.grownBy u (some m)->KnP u m (cnt B)->cF tP 83 #[nM V B m C,.int qi (k:Int),.int qi f,.int qi t] u λe u'=>e=rT (.agg #[.int qi (iY B k f t).1,.int qi (iY B k f t).2])/\KnP u' m (cnt B)/\u.grownBy u' (some m)):=lH λf t u hf ht hg aC=>c83 V B hF w.heap.size m C k f t u (s.grown hg aC) hk (Gu J hk) ht hf;obtain⟨H,I⟩:∃H:Nat->List vL,H=λj=>rZ ((pq B k 0 T).take j):=⟨_,rfl⟩;have ao:Hid (H 0=[]):=lH (by rw[I];rfl);have ap:Hid (∀u r,u.ownsRow W.heap.size 32 2 r T.length (H T.length)->su u (pq B ((k:Int)).toNat 0 T) r):=lH λu r h=>abC (base:=W.heap.size) (by rw[I]at h;simp only at h;rw[<-OC (B:=B) (k:=k) T 0,List.take_length]at h;exact h)
  have ar:Hid (∀j,j<T.length->H (j+1)=H j++[.int qi (iY B k (lastT 0 T j) (T.getD j 0)).1,.int qi (iY B k (lastT 0 T j) (T.getD j 0)).2]):=lH λj L=>by rw[I];simp only;rw[Ak5,OA T 0 j L];simp[rZ]
  have ab:Hid (lastT 0 T 0=0/\∀j,lastT 0 T (j+1)=T.getD j 0):=lH ⟨rfl,λj=>rfl⟩;have au:Hid (∀j,j<T.length->T.getD j 0<=200):=lH λj L=>(U j L).2;have HLb:Hid (∀j,j<=T.length->lastT 0 T j<=200):=lH λj L=>by
   unfold lastT
   split
   ·omega
   exact(U (j-1) zP).2
  have O:=lH p;have aw:=lH s.kn;obtain⟨za,la,ca,pa,zc,lc,cc,pc⟩:=V;rw[p]at D;generalize lastT 0 T=LT at*;generalize aH:T.length=nT at*;obtain⟨ts,rfl,h9,h8,h1,h2,-⟩:=D.lit;simp only[biF,sqR,qI,f21,Agx,up,Akz,h9,h8,h1,h2];clear hO q hS D e8 e9 s hl p ag az hA ah I hT U ae J h0
  go_wp2_with fail
  go_loopw [10,11,30] (λv lt i wr=>∃j:Nat,j<=nT/\i=.int qi (j:Int)/\lt=.int qi (LT j)/\Hid (wr.ownsRow W.heap.size 32 2 v j (H j))/\Hid (KnP wr m (cnt B))/\Hid (W.grownBy wr (some m))) (λ_ _ i _=>nT-(intOf i).toNat)
  case atStart=>exact⟨0,Aih _,rfl,by rw[ab.out.1],lH (by rw[ao.out];exact Aiz _ _ _ _),aw,lH (eF _ _)⟩
  case round=>
   obtain⟨j,L,rfl,rfl,A,ax,Hg⟩:=hrel;by_cases hlt:j<nT
   ·obtain⟨b,o,rfl,af⟩:=av.out j hlt;have g0:=af wr Hg.out;have aA:=HC.out wr Hg.out;obtain⟨q0,q1,q2,q3,q4,q5,q6,q7,q8,-⟩:=aA;have aq:=lH (ar.out j hlt);have am:=lH (ab.out.2 j);have H1:=lH (ai.out (LT j) (T.getD j 0) wr (HLb.out j zP) (au.out j hlt) Hg.out ax.out);clear af;generalize T.getD j 0=x at*;generalize iY B k (LT j) x=E at*;obtain⟨x0,x1⟩:=E
    go_wp2_with (first|(go_at_call 83;refine H1.out.mono ?_;rintro e u ⟨rfl,M,Y⟩;have ad:=lH M;have ac:=lH (cZ Hg.out Y);have g:=lH (A.out.kept Y (.inr λe=>absurd ((A.out.lt m e).1) zP));clear M Y)|(at_builtin;refine rO rfl _ _ 36 32 rfl (.agg #[.int qi 0,.int qi 0]) 2 16 underlying36 abD rfl zE W.heap.size j (H j) _ rfl (g.out.alloc _) u.heap.size 1 [.int qi x0,.int qi x1] rfl rfl ?c1 ?c2 ?c3 zE ?c4 ?_))
    case c1=>intro i y Z;match i,Z with|0,Z=>cases Z;go_simp|1,Z=>cases Z;go_simp
    case c2=>simp[Ak8]
    case c3=>omega
    case c4=>have:=ac.out.size;simp;omega
    intro v' w' G X _;have an:Hid (w'.ownsRow W.heap.size 32 2 v' (j+1) (H (j+1))):=lH (by rw[aq.out];exact G);have aj:=lH (rP (bY ac.out _) X λi Z=>(g.out.lt i Z).1);have ak:Hid (KnP w' m (cnt B)):=lH ((ad.out.alloc _).kept X λe=>absurd ((g.out.lt m e.symm).1) zP);clear G X;go_wp2;go_roundw
    case rel=>exact⟨j+1,zP,by go_num,by rw[am.out],an,ak,aj⟩
    case measure=>simp[intOf];omega
   have aB:j=nT:=zP
   subst aB;go_wp2
   go_ret2
   refine⟨_,rfl,H0.out.grownX Hg.out λj e=>by cases e;exact aa,_,by rw[O.out];rfl,λe=>absurd O.out e,λ_=>ap.out _ _ A.out⟩
 have O:=lH p;obtain⟨ts,rfl,h9,h8,h1,h2,-⟩:=D.lit;simp only[biF,sqR,qI,f21,Agx,up,Akz,h9,h8,h1,h2];clear hO q hS D e8 e9 hT;have HQ:Hid (∀u,Kp w u->yS w B n T (.tuple #[.slice none 0 0,.int qi (gJ B n T)]) u):=lH λu hu=>⟨hu,_,rfl,λ_=>rfl,λe=>absurd e p⟩;generalize yS w B n T=Q at*;generalize gJ B n T=al at*
 go_wp2_with fail
 go_ret2
 exact⟨_,rfl,HQ.out _ H0.out⟩
def abJ(q:GBk w V B)(n:Int)(g:aF w ta T):bT tP 21 #[V.val B,.int qi n,.slice ta T.length tc] w (yS w B n T):=by
 refine iU (fn:=f21) (x:=qI) rfl rfl ?_;have e:qI=.seq biA (.seq biE biF):=xD
 rw[e];exact aQ (abE λa1 w1 D r d c1=>aQ (abH (g.kp d) q r d c1 λC G p m s A=>abI p.2.1 p (d.trans m) (g.kp (d.trans m)) s A λ_ _ h=>h))
end
end Go.Proofs.Y
namespace Go.Proofs.Y
open Go.RowKit Go.Tp Go.Meter
variable {k:Nat} {xs ys:List Int}
def trk(xs:List Int):Nat->Int:=λk=>xs.getD k 0
def SlB(w:wD)(d:Option aD)(xs:List (Int×Int)):Prop:=∀(i:Nat) (x:(Int×Int)),xs[i]? =some x->∃b o,d=some ⟨b,o,none⟩/\w.cell? ⟨b,o+i*2,none⟩=some (.int qi x.1)/\w.cell? ⟨b,o+i*2+1,none⟩=some (.int qi x.2)
def Cc{w:wD}{m:Option aD}(hx:aF w m xs)(r:k<xs.length):∃g d,m=some ⟨g,d,none⟩/\w.cell? ⟨g,d+k,none⟩=some (.int qi (trk xs k)):=by
 have e:xs[k]? =some xs[k]:=lG r;obtain⟨b,o,p,q⟩:=hx k _ e;have:trk xs k=xs[k]:=by unfold trk;rw[lD,e];rfl
 exact⟨b,o,p,by rw[this];exact q⟩
def iZ:List Int->List Int->Bool
 |[],[]=>false
 |[],_::_=>true
 |_::_,[]=>false
 |a::l,b::m=>if a=b then iZ l m else decide (a<b)
def abK(h:k<xs.length)(h2:k<ys.length):iZ (xs.drop k) (ys.drop k)=if trk xs k=trk ys k then iZ (xs.drop (k+1)) (ys.drop (k+1))else decide (trk xs k<trk ys k):=by
 have d:trk xs k=xs[k]:=by unfold trk;rw[lD,lG h];rfl
 have e:trk ys k=ys[k]:=by unfold trk;rw[lD,lG h2];rfl
 rw[d,e,Ahw h,Ahw h2,iZ]
def abL(hx:k<=xs.length)(e:k<=ys.length)(h:¬(k<xs.length/\k<ys.length)):iZ (xs.drop k) (ys.drop k)=decide (xs.length<ys.length):=by
 by_cases d:k<xs.length
 ·rw[Ahw d,Ahy (show ys.length<=k by omega),iZ];exact(decide_eq_false zP).symm
 rw[Ahy (show xs.length<=k by omega)];by_cases h2:k<ys.length
 ·rw[Ahw h2,iZ];exact(decide_eq_true zP).symm
 rw[Ahy (show ys.length<=k by omega),iZ];exact(decide_eq_false zP).symm
theorem OG:∀xs ys:List Int,(!iZ xs ys&& !iZ ys xs)=decide (xs=ys)
 |[],[]=>rfl
 |[],_::_=>rfl
 |_::_,[]=>rfl
 |a::l,b::m=>by
  unfold iZ;by_cases e:a=b
  ·subst e;rw[if_pos rfl,if_pos rfl,OG l m];simp
  rw[if_neg e,if_neg (Ne.symm e)];simp[e];omega
def Gv(xs ys:List Int)(M N:Option aD)(xc yc:Nat)(w:wD)(hx:aF w M xs)(I:aF w N ys)(A:xs.length<=1000000)(C:ys.length<=1000000):
 cF tP 103 #[.slice M xs.length xc,.slice N ys.length yc] w λe w'=>e=rT (.bool (iZ xs ys))/\bX w.heap.size w w':=by
 have O:=lH hx;have U:=lH I;have D:=lH (And.intro A C);clear hx I A C;go_enter func103,ntmps103
 go_wp2_with fail
 go_loopw [5] (λi wr=>∃k:Nat,k<=xs.length/\k<=ys.length/\i=.int qi (k:Int)/\iZ xs ys=iZ (xs.drop k) (ys.drop k)/\∃n,wr=w.drewN n) (λi _=>xs.length-(intOf i).toNat)
 case atStart=>exact⟨0,Aih _,Aih _,rfl,rfl,0,rfl⟩
 case round=>
  obtain⟨k,X,G,rfl,q,n,rfl⟩:=hrel;have g:=lH q;clear q;by_cases hlt:k<xs.length/\k<ys.length
  ·obtain⟨r,s⟩:=hlt;obtain⟨tb,L,rfl,Z⟩:=Cc O.out r;obtain⟨sb,J,rfl,H⟩:=Cc U.out s;have d:=abK r s;by_cases p:trk xs k=trk ys k
   ·rw[if_pos p]at d;have m:=lH (g.out.trans d);rw[<-p]at H;clear d p;generalize trk xs k=a at*;have hl:=D.out.1
    go_wp2_with fail
    go_quiet (fail)
    go_wp2;go_roundw
    case rel=>exact⟨k+1,zP,zP,by go_num,m.out,n+nq,rfl⟩
    case measure=>simp[intOf];omega
   rw[if_neg p]at d;have m:=lH (g.out.trans d);have Y:(trk xs k !=trk ys k)=true:=by simp[p]
   clear d p;generalize trk xs k=a at*;generalize trk ys k=b at*
   go_wp2_with fail
   go_quiet (fail)
   go_wp2_with fail
   go_quiet (fail)
   go_wp2;go_ret;exact⟨by rw[m.out];rfl,below_drewN (below_drewN (below_drewN (bR _ _) _) _) _⟩
  have m:=lH (g.out.trans (abL X G hlt));by_cases W:k<xs.length
  ·have h2:¬k<ys.length:=λh=>hlt ⟨W,h⟩;clear hlt;go_wp2;go_ret;exact⟨by rw[m.out];rfl,below_drewN (bR _ _) _⟩
  clear hlt;go_wp2;go_ret;exact⟨by rw[m.out];rfl,below_drewN (bR _ _) _⟩
def c28(xs ys:List Int)(A C:Option aD)(D G:Nat)(w:wD)(hx:aF w A xs)(M:aF w C ys)(g:xs.length<=1000000)(m:ys.length<=1000000):
 cF tP 28 #[.slice A xs.length D,.slice C ys.length G] w λe N=>e=rT (.bool (decide (xs=ys)))/\bX w.heap.size w N:=by
 have I:=lH hx;have J:=lH M;have p:=lH (OG xs ys);clear hx M
 cases q:iZ xs ys with
 |true=>
  rw[q]at p;have d:Hid (decide (xs=ys)=false):=lH (p.out.symm.trans yW);clear p;have H:=lH q;clear q;go_enter func28,ntmps28
  go_wp2_with fail
  refine(Gv xs ys A C D G _ I.out J.out g m).mono ?_;rintro e w1 ⟨rfl,r⟩;rw[H.out];have Hb:=lH r;clear r;go_wp2;go_ret;exact⟨by rw[d.out];rfl,Hb.out⟩
 |false=>
  rw[q]at p;have H:=lH q;clear q;go_enter func28,ntmps28
  go_wp2_with fail
  refine(Gv xs ys A C D G _ I.out J.out g m).mono ?_;rintro e w1 ⟨rfl,r⟩;rw[H.out];have Hb:=lH r;clear r
  go_wp2_with fail
  refine(Gv ys xs C A G D _ (J.out.below Hb.out (nR _)) (I.out.below Hb.out (nR _)) m g).mono ?_;rintro e O ⟨rfl,s⟩;have L:=lH (Hb.out.trans (s.mono Hb.out.size));have d:Hid (decide (xs=ys)= !iZ ys xs):=lH (p.out.symm.trans yW);clear s p;generalize iZ ys xs=t at*;go_wp2;go_ret;exact⟨by rw[d.out];rfl,L.out⟩
def c35(xs ys:List Int)(p q:Option aD)(A C:Nat)(w:wD)(hx:aF w p xs)(s:aF w q ys)(g:xs.length<=1000000)(m:ys.length<=1000000):
 cF tP 35 #[.slice p xs.length A,.slice q ys.length C] w λe J=>e=rT (.bool (decide (xs=ys)))/\bX w.heap.size w J:=by
 have G:=lH hx;have H:=lH s;clear hx s;go_enter func35,ntmps35
 go_wp2_with fail
 refine(c28 xs ys p q A C _ G.out H.out g m).mono ?_;rintro e w1 ⟨rfl,r⟩;have Hb:=lH r;clear r;have D:Hid (∃t,t=decide (xs=ys)):=lH ⟨_,rfl⟩;obtain⟨t,d⟩:=D.out;rw[<-d];have I:=lH d;clear d;go_wp2;go_ret;exact⟨by rw[<-I.out];rfl,Hb.out⟩
def bnd(xs:List (Int×Int))(k:Nat):Int×Int:=xs.getD k (0,0)
def OH{w:wD}{xs:List (Int×Int)}{m:Option aD}(hx:SlB w m xs)(r:k<xs.length):∃g d,m=some ⟨g,d,none⟩/\w.cell? ⟨g,d+k*2,none⟩=some (.int qi (bnd xs k).1)/\w.cell? ⟨g,d+k*2+1,none⟩=some (.int qi (bnd xs k).2):=by
 have e:xs[k]? =some xs[k]:=lG r;obtain⟨b,o,p,q,h4⟩:=hx k _ e;have:bnd xs k=xs[k]:=by unfold bnd;rw[lD,e];rfl
 exact⟨b,o,p,by rw[this];exact q,by rw[this];exact h4⟩
def abM{xs ys:List (Int×Int)}(h:k<xs.length)(h2:k<ys.length):(xs.drop k=ys.drop k)=(bnd xs k=bnd ys k/\xs.drop (k+1)=ys.drop (k+1)):=by
 have d:bnd xs k=xs[k]:=by unfold bnd;rw[lD,lG h];rfl
 have e:bnd ys k=ys[k]:=by unfold bnd;rw[lD,lG h2];rfl
 rw[d,e,Ahw h,Ahw h2,List.cons.injEq]
def OI(a b c d:Int)(w:wD):(Op.equalIn 10000 32 (.agg #[.int qi a,.int qi b]) (.agg #[.int qi c,.int qi d])).run tP w=.ok (a==c&&b==d) w:=by have u3:=underlying3;have g:=isAgg3;have m:=sizeOf3;rw[show (10000 :Nat)=9999+1 from rfl,Op.equalIn];simp only[Ala,run_underlying underlying32,Ak6];go_simp;by_cases e:a=c<;>by_cases h2:b=d<;>simp[e,h2]
def c23(xs ys:List (Int×Int))(W X:Option aD)(xc yc:Nat)(w:wD)(hx:SlB w W xs)(N:SlB w X ys)(I:xs.length<=1000000)(J:ys.length<=1000000):
 cF tP 23 #[.slice W xs.length xc,.slice X ys.length yc] w λe w'=>e=rT (.bool (decide (xs=ys)))/\bX w.heap.size w w':=by
 have Y:=lH hx;have Z:=lH N;have A:=lH (And.intro I J);clear hx N I J;by_cases g:xs.length=ys.length
 ·have G:((xs.length:Int) !=(ys.length:Int))=false:=by simp[g]
  have H:(xs.length !=ys.length)=false:=by simp[g]
  have m:=lH g;clear g;go_enter func23,ntmps23
  go_wp2_with fail
  go_loopw [5] (λi wr=>∃k:Nat,k<=xs.length/\i=.int qi (k:Int)/\(xs=ys↔xs.drop k=ys.drop k)/\∃n,wr=w.drewN n) (λi _=>xs.length-(intOf i).toNat)
  case atStart=>exact⟨0,Aih _,rfl,yW,0,rfl⟩
  case round=>
   obtain⟨k,hk,rfl,D,n,rfl⟩:=hrel;have r:=lH D;clear D;by_cases hlt:k<xs.length
   ·have p:k<ys.length:=by have:=m.out;omega
    obtain⟨tb,U,rfl,h1,h2⟩:=OH Y.out hlt;obtain⟨sb,O,rfl,h3,h4⟩:=OH Z.out p;have C:=lH (abM hlt p);generalize bnd xs k=x at*;generalize bnd ys k=y at*;obtain⟨a,b⟩:=x;obtain⟨c,d⟩:=y;simp only at h1 h2 h3 h4;have aa:(k:Int)<(xs.length:Int):=zP
    have ab:(k:Int)<(ys.length:Int):=zP
    have hq:=OI a b c d;by_cases L:a=c/\b=d
    ·obtain⟨rfl,rfl⟩:=L;have q:Hid (xs=ys↔xs.drop (k+1)=ys.drop (k+1)):=lH (by rw[r.out,C.out];simp);have s:(a==a&&b==b)=true:=yW
     have M:=A.out.1
     go_wp2_with fail
     go_quiet (fail)
     go_wp2;exact⟨⟨k+1,zP,rfl,q.out,n+nq,rfl⟩,by simp[intOf];omega⟩
    have q:Hid (decide (xs=ys)=false):=lH (decide_eq_false (by rw[r.out,C.out];rintro⟨e,_⟩;simp only[Prod.mk.injEq]at e;exact L e))
    have s:(a==c&&b==d)=false:=by
     cases e:(a==c&&b==d)with
     |false=>rfl
     |true=>exact absurd (by simpa using e) L
    have M:=A.out.1;rw[s]at hq;clear s L
    go_wp2_with fail
    go_quiet (fail)
    go_wp2;go_ret;exact⟨by rw[q.out];rfl,below_drewN (below_drewN (bR _ _) _) _⟩
   have q:Hid (decide (xs=ys)=true):=lH (decide_eq_true (by rw[r.out,Ahy (show xs.length<=k by omega),Ahy (show ys.length<=k by have:=m.out;omega)]))
   have M:¬(k:Int)<(xs.length:Int):=zP
   go_wp2;go_ret;exact⟨by rw[q.out];rfl,below_drewN (bR _ _) _⟩
 have q:Hid (decide (xs=ys)=false):=lH (decide_eq_false λh=>g (by rw[h]));have G:((xs.length:Int) !=(ys.length:Int))=true:=by simp;omega
 have H:(xs.length !=ys.length)=true:=by simp[g]
 clear g;go_enter func23,ntmps23;go_wp2;go_ret;exact⟨by rw[q.out];rfl,bR _ _⟩
def abN(h:k<xs.length)(h2:k<ys.length):(xs.drop k=ys.drop k)=(trk xs k=trk ys k/\xs.drop (k+1)=ys.drop (k+1)):=by
 have d:trk xs k=xs[k]:=by unfold trk;rw[lD,lG h];rfl
 have e:trk ys k=ys[k]:=by unfold trk;rw[lD,lG h2];rfl
 rw[d,e,Ahw h,Ahw h2,List.cons.injEq]
def c55(xs ys:List Int)(O U:Option aD)(xc yc:Nat)(w:wD)(hx:aF w O xs)(L:aF w U ys)(G:xs.length<=1000000)(H:ys.length<=1000000):
 cF tP 55 #[.slice O xs.length xc,.slice U ys.length yc] w λe w'=>e=rT (.bool (decide (xs=ys)))/\bX w.heap.size w w':=by
 have W:=lH hx;have X:=lH L;have r:=lH (And.intro G H);clear hx L G H;by_cases d:xs.length=ys.length
 ·have C:((xs.length:Int) !=(ys.length:Int))=false:=by simp[d]
  have D:(xs.length !=ys.length)=false:=by simp[d]
  have g:=lH d;clear d;go_enter func55,ntmps55
  go_wp2_with fail
  go_loopw [5] (λi wr=>∃k:Nat,k<=xs.length/\i=.int qi (k:Int)/\(xs=ys↔xs.drop k=ys.drop k)/\∃n,wr=w.drewN n) (λi _=>xs.length-(intOf i).toNat)
  case atStart=>exact⟨0,Aih _,rfl,yW,0,rfl⟩
  case round=>
   obtain⟨k,hk,rfl,A,n,rfl⟩:=hrel;have q:=lH A;clear A;by_cases hlt:k<xs.length
   ·have m:k<ys.length:=by have:=g.out;omega
    obtain⟨tb,N,rfl,h1⟩:=Cc W.out hlt;obtain⟨sb,M,rfl,h3⟩:=Cc X.out m;have s:=lH (abN hlt m);generalize trk xs k=a at*;generalize trk ys k=c at*;have Y:(k:Int)<(xs.length:Int):=zP
    have Z:(k:Int)<(ys.length:Int):=zP
    by_cases I:a=c
    ·subst I;have p:Hid (xs=ys↔xs.drop (k+1)=ys.drop (k+1)):=lH (by rw[q.out,s.out];simp);have J:=r.out.1
     go_wp2_with fail
     go_quiet (fail)
     go_wp2;exact⟨⟨k+1,zP,rfl,p.out,n+nq,rfl⟩,by simp[intOf];omega⟩
    have p:Hid (decide (xs=ys)=false):=lH (decide_eq_false (by rw[q.out,s.out];rintro⟨e,_⟩;exact I e))
    have aa:(a !=c)=true:=by simpa using I
    have J:=r.out.1;clear I
    go_wp2_with fail
    go_quiet (fail)
    go_wp2;go_ret;exact⟨by rw[p.out];rfl,below_drewN (below_drewN (bR _ _) _) _⟩
   have p:Hid (decide (xs=ys)=true):=lH (decide_eq_true (by rw[q.out,Ahy (show xs.length<=k by omega),Ahy (show ys.length<=k by have:=g.out;omega)]))
   have J:¬(k:Int)<(xs.length:Int):=zP
   go_wp2;go_ret;exact⟨by rw[p.out];rfl,below_drewN (bR _ _) _⟩
 have p:Hid (decide (xs=ys)=false):=lH (decide_eq_false λh=>d (by rw[h]));have C:((xs.length:Int) !=(ys.length:Int))=true:=by simp;omega
 have D:(xs.length !=ys.length)=true:=by simp[d]
 clear d;go_enter func55,ntmps55;go_wp2;go_ret;exact⟨by rw[p.out];rfl,bR _ _⟩
def c78(xs ys:List Int)(p q:Option aD)(A C:Nat)(w:wD)(hx:aF w p xs)(s:aF w q ys)(g:xs.length<=1000000)(m:ys.length<=1000000):
 cF tP 78 #[.slice p xs.length A,.slice q ys.length C] w λe J=>e=rT (.bool (decide (xs=ys)))/\bX w.heap.size w J:=by
 have G:=lH hx;have H:=lH s;clear hx s;go_enter func78,ntmps78
 go_wp2_with fail
 refine(c55 xs ys p q A C _ G.out H.out g m).mono ?_;rintro e w1 ⟨rfl,r⟩;have Hb:=lH r;clear r;have D:Hid (∃t,t=decide (xs=ys)):=lH ⟨_,rfl⟩;obtain⟨t,d⟩:=D.out;rw[<-d];have I:=lH d;clear d;go_wp2;go_ret;exact⟨by rw[<-I.out];rfl,Hb.out⟩
end Go.Proofs.Y
namespace Go.Tp
open Go.Conc Go.ConcN Go.RowKit
variable {Rr:Rl} {f:FuncId} {S:Nat->Prop} {u w1 w:wD} {n:Nat} {cs:List fR} {gs:Array gO} {t:Trace} {fn:Func} {E':Rl->wD->gO->Prop} {c x y:Code} {v:vL} {main:Bool} {ats:Array TypeId} {caps:Array vL}
def yT(ds:List (List Nat)):Nat->Nat->Nat->Bool
 |0,_,_=>false
 |n+1,i,j=>((ds[i]?).getD []).any λl=>l==j||yT ds n l j
def OJ(n m:Nat)(ds:List (List Nat)):Bool:=(Aes m).all λi=>decide (i<n)||(Aes i).all λj=>yT ds 6 i j
theorem OL{ds:List (List Nat)}{m:Nat}{f:Nat->Bool}(d:∀i,i<m->∀j∈(ds[i]?).getD [],j<i)(e:∀i,i<m->f i=true->∀j∈(ds[i]?).getD [],f j=true):∀(n i j:Nat),i<m->yT ds n i j=true->(∀l∈(ds[i]?).getD [],f l=true)->f j=true
 |0,_,_,_,h,_=>by cases h
 |n+1,i,j,hi,h,hd=>by
  unfold yT at h;rw[List.any_eq_true]at h;obtain⟨l,g,h⟩:=h;simp only[Afd,beq_iff_eq]at h
  rcases h with rfl|h
  ·exact hd l g
  have p:=d i hi l g;exact OL d e n l j zP h (e l zP (hd l g))
section
variable {P:pQ} [Team P] {b:fR} {R:vL->wD->Prop} {a:Act} {w:wD} {it k:List Item} {ops:Array Oper} {i:Nat} {rest:List Nat} {o:Oper}
def OM(hm:P.follows .mixedOrders=true){id N:Nat}{dr:Bool}{l:List (Nat×vL)}(hS:Sl a N l)(n:Nat)(ds:List (List Nat))(I:List (Option Nat))(Rr:Nat->vL->wD->Prop)(H:Nat->Act->wD->Prop)(hd:qp ops ds=true)(G:oZ ops.size ds=true)(D:OJ n ops.size ds=true)(hn:n<=ops.size){ks:List Nat}(am:l.map (·.1)=ks)(af:dlB n N ks I=true)(ad:∀(f:Nat->Bool) (a1:Act) (w1:wD) (i:Nat) (rest:List Nat),Sl a1 N l->Kp w w1->(∀j,j<n->f j=true->Rr j (sv a1 ((I[j]?).getD none)) w1)->i<n->(∀j∈(ds[i]?).getD [],f j=true)->
 (∀v J,Kp w J->(∀j,j<n->f j=true->j≠i->Rr j (sv a1 ((I[j]?).getD none)) w1->Rr j (sv a1 ((I[j]?).getD none)) J)->((I[i]?).getD none=none->v=ud)->Rr i v J->GLb P b (.inRegion ops rest::k) R (a1.put ((I[i]?).getD none) v) J)->GLb P b (.inRegion ops (i::rest)::k) R a1 w1)(Z:∀a1 w1,Sl a1 N l->Kp w w1->(∀j,j<n->Rr j (sv a1 ((I[j]?).getD none)) w1)->H n a1 w1)(ac:∀i a1 w1 rest,n<=i->i<ops.size->H i a1 w1->(∀a2 J,H (i+1) a2 J->GLb P b (.inRegion ops rest::k) R a2 J)->GLb P b (.inRegion ops (i::rest)::k) R a1 w1)(ag:∀a1 w1,H ops.size a1 w1->GLb P b k R a1 w1):GLb P b (.code (.region id ops dr)::k) R a w:=by
 have ae:=FZ af;rw[<-am]at ae;have M:∀i,i<ops.size->∀j∈(ds[i]?).getD [],j<i:=λi C j r=>by unfold oZ at G;rw[Ah8]at G;have:=G i (Aid.2 C);rw[Ah8]at this;simpa using this j r
 have an:∀i,n<=i->i<ops.size->∀j,j<i->yT ds 6 i j=true:=λi A h2 j r=>by unfold OJ at D;rw[Ah8]at D;have:=D i (Aid.2 h2);simp only[Afd,decide_eq_true_eq]at this;have:=this.resolve_left zP;rw[Ah8]at this;exact this j (Aid.2 r)
 refine BK hm ds hd G (λf a1 w1=>(∀i,i<ops.size->f i=true->∀j∈(ds[i]?).getD [],f j=true)/\(((∀i,n<=i->i<ops.size->f i=false)/\Sl a1 N l/\Kp w w1/\∀j,j<n->f j=true->Rr j (sv a1 ((I[j]?).getD none)) w1)\/∃m,n<m/\m<=ops.size/\(∀i,i<ops.size->f i=decide (i<m))/\H m a1 w1)) ⟨(λi _ h=>by cases h),.inl ⟨λ_ _ _=>rfl,hS,.refl _,(λj _ h=>by cases h)⟩⟩ ?_ ?_ ?_
 ·rintro f g a1 w1 L ⟨W,h⟩;refine⟨λi C hg j r=>?_,?_⟩
  ·have ao:=M i C j r;rw[<-L j zP];exact W i C (by rw[L i C];exact hg) j r
  rcases h with⟨A,h2,s,h4⟩|⟨m,A,h2,s,h4⟩
  ·exact .inl ⟨λi x y=>by rw[<-L i y];exact A i x y,h2,s,λj r hg=>h4 j r (by rw[L j zP];exact hg)⟩
  exact .inr ⟨m,A,h2,λi C=>by rw[<-L i C];exact s i C,h4⟩
 ·rintro f a1 w1 i rest ⟨W,h⟩ C ab aa hk;have Y:∀x,x<ops.size->(x==i||f x)=true->∀j∈(ds[x]?).getD [],(j==i||f j)=true:=λx hx ah j r=>by
   simp only[Afd,beq_iff_eq]at ah⊢
   rcases ah with e|e
   ·subst e;exact .inr (aa j r)
   exact .inr (W x hx e j r)
  by_cases ai:i<n
  ·rcases h with⟨A,h2,s,h4⟩|⟨m,A,h2,s,h4⟩
   ·refine ad f a1 w1 i rest h2 s h4 ai aa λv J h5 h6 h7 h8=>hk _ J ⟨Y,.inl ?_⟩;have aj:∀x,n<=x->x<ops.size->(x==i||f x)=false:=λx hx X=>by
     rw[A x hx X];simp;omega
    cases e:(I[i]?).getD none with
    |none=>
     refine⟨aj,h2,h5,λj r hf=>?_⟩;by_cases U:j=i
     ·subst U;rw[e];rw[h7 e]at h8;exact h8
     exact h6 j r (by simpa[U]using hf) U (h4 j r (by simpa[U]using hf))
    |some d=>
     obtain⟨k1,k2,k3⟩:=ae i ai d e;have p:=dU a1 (d:=d) v (by rw[h2.1];exact k1);refine⟨aj,h2.other p k2,h5,λj r hf=>?_⟩;by_cases U:j=i
     ·subst U;rw[e]
      show Rr j ((a1.put (some d) v).tmps[d]?.getD ud) J
      rw[p.same];exact h8
     have O:=k3 j r U;have e2:sv (a1.put (some d) v) ((I[j]?).getD none)=sv a1 ((I[j]?).getD none):=by
      cases e3:(I[j]?).getD none with
      |none=>rfl
      |some d2=>exact p.other d2 λe4=>O (by rw[e3,e4])
     rw[e2];exact h6 j r (by simpa[U]using hf) U (h4 j r (by simpa[U]using hf))
   have:=s i C;rw[ab]at this;simp at this;omega
  have q:∀j,j<i->f j=true:=λj r=>OL M W 6 i j C (an i zP C j r) aa;have ak:H i a1 w1:=by
   rcases h with⟨A,h2,s,h4⟩|⟨m,A,h2,s,h4⟩
   ·have e:i=n:=by
     apply Ad3;intro O;have:=A n (nR _) zP;rw[q n zP]at this
     cases this
    rw[e];exact Z a1 w1 h2 s λj r=>h4 j r (q j zP)
   have e:i=m:=by have h5:=s i C;rw[ab]at h5;simp at h5;apply Ad3;intro O;have h6:=s m zP;rw[q m zP]at h6;simp at h6
   rw[e];exact h4
  refine ac i a1 w1 rest zP C ak λa2 J h5=>hk a2 J ⟨Y,.inr ⟨i+1,zP,zP,λx hx=>?_,h5⟩⟩;have al:f x=decide (x<i):=by
   by_cases X:x<i
   ·rw[q x X];simp[X]
   rcases h with⟨A,_⟩|⟨m,A,h2,s,_⟩
   ·rw[A x zP hx];simp;omega
   have h6:=s i C;rw[ab]at h6;simp at h6;rw[s x hx];have h7:m<=i:=h6;simp;omega
  show (x==i||f x)=decide (x<i+1)
  rw[al,Ai4];simp only[Afd,beq_iff_eq,decide_eq_true_eq];omega
 rintro f a1 w1 ⟨_,h⟩ q;refine ag a1 w1 ?_
 rcases h with⟨A,h2,s,h4⟩|⟨m,A,h2,s,h4⟩
 ·have e:n=ops.size:=by
   apply Ad3;intro O;have:=A n (nR _) zP;rw[q n zP]at this
   cases this
  rw[<-e];exact Z a1 w1 h2 s λj r=>h4 j r (q j zP)
 have e:m=ops.size:=by apply Ad3;intro O;have h6:=s m zP;rw[q m zP]at h6;simp at h6
 rw[<-e];exact h4
end
abbrev frR(b:fR)(ro:Option Nat)(a:Act)(it:List Item):fR:={b.at a it with roundOf:=ro}
section
variable (P:pQ) [Team P]
def gY(S:Nat->Prop)(E:Rl->wD->gO->Prop)(gs:Array gO)(u:wD)(sl:Option (Nat×Nat))(t:Trace)(Rr:Rl):Prop:=
 ∃(N:Nat) (e:Array gO) (d:Nat->Prop) (m:Rl) (s:gO) (r g:wD) (p:Option (Nat×Nat)) (q:Trace) (A:Nat->Nat),
  runNT P N (crowd gs u sl) t=(.next (crowd e g p),q)/\e[0]? =some s/\E m r s/\Started r/\Mod P S d m r g/\(Rr.le m/\Sm S u g)/\Alb P q e A/\Past (bW d) g.heap.size q
def GLe(b:fR)(ro:Option Nat)(it:List Item)(E:List fR->Rl->wD->gO->Prop)(a:Act)(w:wD):Prop:=
 ∀(S d:Nat->Prop) (Rr:Rl) (e:Option Nat) (g:Act) (u:wD) (gs:Array gO) (m:Option (Nat×Nat)) (t:Trace) (q:Nat->Nat) (cs:List fR),VRs (tF P) Rr a.tmps g.tmps->DfR Rr a.defers g.defers->RoR Rr ro e->(ro.isSome=true->cs≠[])->Started w->Mod P S d Rr w u->
  gs[0]? =some (G (frR b e g it) cs)->Alb P t gs q->Past (bW d) u.heap.size t->gY P S (E cs) gs u m t Rr
def nV(b:fR)(R:vL->wD->Prop)(cs:List fR)(Rr:Rl)(w:wD)(g:gO):Prop:=∃v,NC P b cs Rr w v g/\R v w
def wL(Q:vL->wD->Prop)(cs:List fR)(Rr:Rl)(w:wD)(g:gO):Prop:=∃c rest v d,cs=c::rest/\g=G (c.finish d) rest/\VR (tF P) Rr v d/\Q v w
def AtO(S:Nat->Prop)(E':Rl->wD->gO->Prop)(Rr:Rl)(H:Hold)(g:gO)(u:wD):Prop:=
 ∃(e:Rl) (w1:wD),H=⟨e.own,S⟩/\Started w1/\WR P (tF P) (tK P) e (w1.tp u.tape u.drawn noJ) u/\(∀b m,e.rel b m->e.own m\/S m)/\Rr.le e/\
  ∀(d:Nat->Prop) (gs:Array gO) (p:Option (Nat×Nat)) (t:Trace) (q:Nat->Nat),Mod P S d e w1 u->gs[0]? =some g->Alb P t gs q->Past (bW d) u.heap.size t->gY P S E' gs u p t e
end
section
variable {P:pQ} [Team P] {b:fR} {ro:Option Nat} {E:List fR->Rl->wD->gO->Prop} {R:vL->wD->Prop} {a:Act} {w:wD} {it k:List Item} {ops:Array Oper} {i:Nat} {rest:List Nat} {o:Oper}
def gY.ahead{gs':Array gO}{u':wD}{sl sl':Option (Nat×Nat)}{p:Trace}{R':Rl}{N:Nat}(hr:runNT P N (crowd gs u sl) t=(.next (crowd gs' u' sl'),p))(g:Rr.le R')(L:Sm S u u')(h:gY P S E' gs' u' sl' p R'):gY P S E' gs u sl t Rr:=by obtain⟨q,d,s,r,C,U,u2,m,O,M,D,h2,G,h6,H,⟨I,A⟩,J,e⟩:=h;exact⟨N+q,d,s,r,C,U,u2,m,O,M,LK hr D,h2,G,h6,H,⟨g.trans I,L.trans A⟩,J,e⟩
def abO(M:a.defers=[])(h:GLe P b none it (nV P b R) a w):GLb P b it R a w:=by intro S d Rr s u gs Y t q cs x1 x2 x3 x4 G I J;obtain⟨N,e,A,r,D,w',u',p,t',W,X,C,⟨v,H,L⟩,Z,m,g,O,U⟩:=h S d Rr none s u gs Y t q cs x1 (by rw[M,x2];exact .nil) .none yW x3 x4 G I J;exact⟨N,e,A,r,v,D,w',u',p,t',W,X,C,H,L,Z,m,g,O,U⟩
def pz{dead:Nat->Prop}{g:gO}{sl:Option (Nat×Nat)}{q:Nat->Nat}(hr:aH P true (AtO P S E' Rr) (⟨Rr.own,S⟩,g,u))(r:Mod P S dead Rr w u)(H:gs[0]? =some g)(L:Alb P t gs q)(M:Past (bW dead) u.heap.size t):gY P S E' gs u sl t Rr:=by obtain⟨N,e,Z,g',u',s,Y,X,I,_,J,_,⟨R1,w1,rfl,e3,C,D,A,G⟩,O,W,m,p⟩:=xR (dead:=dead) hr u gs sl t q (Off.refl _ _) r.live H L M;obtain⟨U,d⟩:=r.went W;exact gY.ahead I A U (G dead e s Y X ⟨C,D,λx hx=>A.rel _ _ (r.gl x hx),O,d⟩ J m p)
def qJ{α Z:Type}{A:Rl->α->Z->Prop}{B:α->Prop}{s:Sem α}{s':Sem Z}{g:gO}{v:α}(hg:g.status=.running)(hs:mM P (tF P) (tK P) A Rr s s')(hc:Calm P B s)(hr:∀τ d,s.run P (w.tp τ d noJ)=.ok v (w1.tp τ d noJ))(ah:Started w)(aj:WR P (tF P) (tK P) Rr (w.tp u.tape u.drawn noJ) u)(J:∀b D,Rr.rel b D->Rr.own D\/S D)(h:∀C v',Rr.le C->A C v v'->Started w1->∃N,(∀I u1 us,s'.runT P I #[]=(.ok v' u1,us)->∃es,stepG P true g I=.go N u1 es/\∀e∈es,e∈us)/\N.status=.running/\
 ∀(p:Nat->Prop) (u2:wD) (gs:Array gO) (sl:Option (Nat×Nat)) (t:Trace) (q:Nat->Nat),Mod P S p C w1 u2->gs[0]? =some N->Alb P t gs q->Past (bW p) u2.heap.size t->gY P S E' gs u2 sl t C):aH P true (AtO P S E' Rr) (⟨Rr.own,S⟩,g,u):=by
 refine aH.step' hg λI af=>?_;have aa:=J;have Y:=aj.off aa af;have U:=fC ah I.tape I.drawn
 cases O:s.runT P (w.tp I.tape I.drawn noJ) #[]with
 |mk r es0=>
  have er:r=.ok v (w1.tp I.tape I.drawn noJ):=by grind [Ajj]
  subst er;obtain⟨_,W⟩:=vK hc U O;have G:Started w1:=by
   have:=fC W w1.tape w1.drawn
   grind [fB,jP]
  obtain⟨C,v',u1,ak,l2,e2,X,ha,m,ac⟩:=hs Rr (.refl _) _ I Y #[] _ _ es0 O #[];have H:∀b D,C.rel b D->C.own D\/S D:=λb D hb=>by
   rcases m.new b D hb with h0|h0
   ·exact(J _ _ h0).imp (l2.own _) id
   exact .inl ((m.own D).2 (.inr ⟨h0,(X.dom b D hb).2⟩))
  obtain⟨N,M,ad,L⟩:=h C v' l2 ha G;obtain⟨es,ae,ab⟩:=M I u1 ak e2;have ai:WR P (tF P) (tK P) C (w1.tp u1.tape u1.drawn noJ) u1:=by rwa [fB]at X
  refine⟨(⟨C.own,S⟩,N,u1),.stop ad λu2 ag=>⟨C,w1,rfl,G,ai.off (S:=S) H ag,H,l2,λp gs sl t q=>L p u2 gs sl t q⟩,es,ae,⟨m.size,λb hb hm=>m.keep b hb hm,λb=>(m.own b).1,λb h=>(m.own b).2 (.inl h),rfl,m.same⟩,λe he=>Au (S:=S) H ((ac e (ab e he)).resolve_left yW)⟩
def qK{m:List Item}(N:∀e d cs p,VRs (tF P) (⟨λ_ _=>True,λ_ _=>True,λ_=>True⟩:Rl) a.tmps e.tmps->stepG P true (G (frR b d e it) cs) p=.go (G (frR b d e m) cs) p #[])(h:GLe P b ro m E a w):GLe P b ro it E a w:=by intro S g Rr d e u gs sl t q cs H x2 x3 x4 x5 x6 J L M;have hx:VRs (tF P) (⟨λ_ _=>True,λ_ _=>True,λ_=>True⟩:Rl) a.tmps e.tmps:=⟨H.size,λi v Z r I=>(H.get i v Z r I).mono ⟨λ_ _ _=>trivial,λ_ _ _=>trivial,λ_ _=>trivial⟩⟩;obtain⟨N1,s,u1,D,Y,U,W,r,O,X,A,C⟩:=beside_step rfl rfl (λp=>N e d cs p hx) x6 J L M;exact gY.ahead W (.refl _) X (h S g Rr d e u1 s D Y U cs H x2 x3 x4 x5 O r A C)
def nX(h:GLe P b ro (.code x:: .code y::k) E a w):GLe P b ro (.code (.seq x y)::k) E a w:=qK (λ_ _ _ _ _=>by simp[G,stepG,Afu,Ahr]) h
def OO(h:GLe P b ro k E a w):GLe P b ro (.code .skip::k) E a w:=qK (λ_ _ _ _ _=>by simp[G,stepG,Afu,Ahr]) h
def Gw(h:GLe P b ro k E a w):GLe P b ro (.inBlock n::k) E a w:=qK (λ_ _ _ _ _=>by simp[G,stepG,Afu,Ahr]) h
def Gy(h:GLe P b ro (.code c:: .inBlock n::k) E a w):GLe P b ro (.code (.block n c)::k) E a w:=qK (λ_ _ _ _ _=>by simp[G,stepG,Afu,Ahr]) h
def abP(h:GLe P b ro (.code c:: .inLoop c::k) E a w):GLe P b ro (.inLoop c::k) E a w:=qK (λ_ _ _ _ _=>by simp[G,stepG,Afu,Ahr]) h
def OQ{d:List Item}(he:exitTo n k=some d)(h:GLe P b ro d E a w):GLe P b ro (.code (.exit n)::k) E a w:=qK (λ_ _ _ _ _=>by simp[G,stepG,Afu,Ahr,he]) h
def qL(h:GLe P b ro (.inRegion ops (Aes ops.size)::k) E a w):GLe P b ro (.code (.region n ops false)::k) E a w:=qK (λ_ _ _ _ _=>by simp[G,stepG,Afu,Ahr]) h
def qM(h:GLe P b ro k E a w):GLe P b ro (.inRegion ops []::k) E a w:=qK (λ_ _ _ _ _=>by simp[G,stepG,Afu,Ahr]) h
def OT{j:Tmp}(t:Bool)(hc:a.tmps.getD j ud=.bool t)(h:GLe P b ro (.code (if t then x else y)::k) E a w):GLe P b ro (.code (.cond (.tmp j) x y)::k) E a w:=by
 refine qK (λg d cs q p=>?_) h;have e:(frR b d g (.code (.cond (.tmp j) x y)::k)).eval (.tmp j)=.bool t:=by have m:=p.getD j;rw[hc]at m;exact ET m
 show Afu P true true (frR b d g (.code (.cond (.tmp j) x y)::k)) cs none q=_
 rw[Aq rfl,e];rfl
end
section
open Go.ChangeMaps (setBlock)
section
variable {P:pQ} {F:FuncId->Bool} {K:Kd} {R:Rl} {α:Type} {l l':Nat} {fs fs1:Array (Nat×Deferred)} {ru ru1:Option Nat} {lp lp1:Loop}
open Classical in
def qN(l:Nat)(fs:Array (Nat×Deferred))(ru:Option Nat):Sem Unit:=do
 let o <-getObj l
 if o=.finalizers fs ru then pure ()else stuck "far"
def kS(l:Nat)(fs:Array (Nat×Deferred))(ru:Option Nat)(fs1:Array (Nat×Deferred))(ru1:Option Nat)(v:α):Sem α:=do
 qN l fs ru
 setObj l (.finalizers fs1 ru1)
 pure v
def OU(h:w.heap[l]? =some (.finalizers fs ru)):(qN l fs ru).run P w=.ok () w:=by simp[qN,getObj,Ala,Sem.run,h,Ak9]
def Gz(h:w.heap[l]? =some (.finalizers fs ru))(v:α):(kS l fs ru fs1 ru1 v).run P w=.ok v (setBlock w l (.finalizers fs1 ru1)):=by unfold kS;rw[Ala,OU h];simp[setObj,Sem.run,h,Ak9,setBlock]
def OV{f:Nat}:aj P (qN l fs (some f)):=by
 unfold qN;refine uZ _ (λo d=>?_) (.inl ⟨"far",?_⟩)
 ·split<;>trivial
 rw[if_neg (by simp[fin])];rfl
def GH{f f1:Nat}(v:α):aj P (kS l fs (some f) fs1 (some f1) v):=by unfold kS;refine aK OV λ_=>aK (tu P _ ⟨trivial,rfl⟩) λ_=>trivial
def Ce(h:R.rel l l')(m:K.dec fs ru=some lp):Sim P F K (λR _ p=>Jz F R lp p/\R.own l') R (qN l fs ru) (Abx l'):=by
 unfold qN Abx;refine ah (lQ h) λq A o C g=>?_;by_cases e:o=.finalizers fs ru
 ·rw[if_pos e];subst e
  rcases g with⟨g,d⟩|⟨a,s,x,e,_⟩
  ·cases g with
   |far hd2 y=>
    rw[m]at hd2
    cases hd2
    exact ak λr h2=>⟨⟨y.state,y.pending,y.fn,y.tmps.mono h2,y.params,y.assign,y.body,h2.rel _ _ y.defers⟩,h2.own _ d⟩
  cases e
 rw[if_neg e];exact ay (au _) _
abbrev Loop.turn(l:Loop)(s:LoopState)(p:Option Code):Loop:={l with state:=s,pending:=p}
def abQ(h:R.rel l l')(p:K.dec fs ru=some lp)(hr:lp.state=.ready)(g:K.dec fs1 ru1=some (Loop.turn lp .busy lp.pending)):Sim P F K (λ_ _ _=>True) R (kS l fs ru fs1 ru1 ()) (Aar l'):=by
 unfold kS Aar;refine ah (Ce h p) λq m r A d=>?_;obtain⟨d,e⟩:=d;refine ah (lT (m.rel _ _ h) e (.far g ⟨rfl,d.pending,d.fn,d.tmps,d.params,d.assign,d.body,d.defers⟩)) λs h2 _ _ _=>?_;rw[d.state,hr]
 grind [ak]
def abR(h:R.rel l l')(p:K.dec fs ru=some lp)(j:Option Code)(g:K.dec fs1 ru1=some (Loop.turn lp (if j.isNone then .ready else .done) j)):Sim P F K (λR v q=>VR F R v q) R (kS l fs ru fs1 ru1 (Ahl j.isNone)) (Abh l' j):=by unfold kS Abh;refine ah (Ce h p) λs m r C d=>?_;obtain⟨d,e⟩:=d;refine ah (lT (m.rel _ _ h) e (.far g ⟨rfl,rfl,d.fn,d.tmps,d.params,d.assign,d.body,d.defers⟩)) λA h2 _ _ _=>?_;exact ak λ_ _=>.bool _
def abS(h:R.rel l l')(q:K.dec fs ru=some lp)(A:lp.state≠.busy)(m:K.dec fs1 ru1=some (Loop.turn lp .exhausted lp.pending)):Sim P F K (λ_ j C=>j=C) R (kS l fs ru fs1 ru1 lp.pending) (Aby l'):=by
 unfold kS Aby;refine ah (Ce h q) λG p r D d=>?_;obtain⟨d,g⟩:=d;have e:(D.state==LoopState.busy)=false:=by rw[d.state];cases s:lp.state<;>first|rfl|exact absurd s A
 rw[e];simp only[kF,if_false];refine ah (lT (p.rel _ _ h) g (.far m ⟨rfl,d.pending,d.fn,d.tmps,d.params,d.assign,d.body,d.defers⟩)) λH h2 _ _ _=>?_;exact ak λ_ _=>d.pending.symm
def abT(h:R.rel l l')(s:K.dec fs ru=some lp)(g:lp.params.size=1){v':vL}(C:VR F R v v'):Sim P F K (λR n D=>n=.skip/\∃m,VRs F R (lp.tmps.setIfInBounds (lp.params.getD 0 0) v) m/\D=.round l' lp.fn m lp.assign lp.body) R (qN l fs ru >>= λ_=>pure Next.skip) (Aer l' #[v']):=by
 unfold Aer;refine ah (Ce h s) λH q r G d=>?_;obtain⟨d,e⟩:=d;rw[if_neg (by rw[d.params,g];simp)];refine ak λI h2=>⟨rfl,G.tmps.setIfInBounds (lp.params.getD 0 0) v',(d.tmps.mono h2).set ((C.mono q).mono h2) _,?_⟩;rw[d.fn,d.assign,d.body,d.params];obtain⟨p,A⟩:=Array.size_eq_one_iff.1 g
 simp_all
end
end
section
open Go.ChangeMaps (setBlock)
def Ci(w:wD)(l:Nat)(o:Obj)(τ:Nat->Question->Nat)(d:Nat):(setBlock w l o).tp τ d noJ=setBlock (w.tp τ d noJ) l o:=by rw[iV,iV];rfl
section
variable {P:pQ} [Team P] {b:fR} {ro:Option Nat} {E:List fR->Rl->wD->gO->Prop} {R:vL->wD->Prop} {Q:vL->wD->Prop} {a:Act} {w:wD} {it k:List Item} {ops:Array Oper} {i:Nat} {rest:List Nat} {o:Oper}
omit [Team P] in
def GI(v:vL)(d:ops[i]? =some o):(frR b ro a (.inRegion ops (i::rest)::k)).finish v=frR b ro (a.put o.dst v) (.inRegion ops rest::k):=by grind [Frame.finish,Ahr,Act.put]
omit [Team P] in
def GL(e:ops[i]? =some o)(p:Ag2 o (yielded ops a.tmps)=true)(r:∀c,o.op≠.defer c):stepG P main (G (frR b ro a (.inRegion ops (i::rest)::k)) cs) w=stepG.apply P true (frR b ro a (.inRegion ops (i::rest)::k)) cs none (execOp a.eval o) w:=by
 have q:(frR b ro a (.inRegion ops (i::rest)::k)).eval=a.eval:=funext λx=>by cases x<;>rfl
 have g:stepG P main (G (frR b ro a (.inRegion ops (i::rest)::k)) cs) w=Afu P main true (frR b ro a (.inRegion ops (i::rest)::k)) cs none w:=rfl;rw[g,Es rfl];have d:((ops[i]?).map (Ag2 · (yielded ops a.tmps))).getD false=true:=by rw[e];exact p
 refine(if_pos d).trans ?_;unfold stepG.oper;have m:(frR b ro a (.inRegion ops (i::rest)::k)).oper?=some o:=e
 grind
omit [Team P] in
def abU{w':wD}(d:ops[i]? =some o)(m:Ag2 o (yielded ops a.tmps)=true)(p:∀c,o.op≠.defer c)(g:b.kind≠.early)(hr:(execOp a.eval o).run P w=.ok (.value v) w'):
 stepG P main (G (frR b ro a (.inRegion ops (i::rest)::k)) cs) w=.go (G (frR b ro (a.put o.dst v) (.inRegion ops rest::k)) cs) w' (listed P b.fn a o w):=by
 have e:(execOp a.eval o).runT P w #[]=(.ok (.value v) w',(execOp a.eval o).events P w #[]):=by simp_all
 rw[GL d m p,Em (fr:=frR b ro a (.inRegion ops (i::rest)::k)) g e,GI v d];rfl
omit [Team P] in
def abV{w':wD}(d:ops[i]? =some o)(m:Ag2 o (yielded ops a.tmps)=true)(p:∀c,o.op≠.defer c)(g:b.kind≠.early)(hr:(execOp a.eval o).run P w=.ok .skip w'):
 stepG P main (G (frR b ro a (.inRegion ops (i::rest)::k)) cs) w=.go (G (frR b ro (a.put o.dst ud) (.inRegion ops rest::k)) cs) w' (listed P b.fn a o w):=by
 have e:(execOp a.eval o).runT P w #[]=(.ok .skip w',(execOp a.eval o).events P w #[]):=by simp_all
 rw[GL d m p,Aj (fr:=frR b ro a (.inRegion ops (i::rest)::k)) g e,GI ud d];rfl
def eU.nd(d:eU P ops i o):∀c,o.op≠.defer c:=λc e=>by
 have:=d.sim;unfold opS at this
 grind
def OW(s:eU P ops i o)(hk:b.kind≠.early)(hr:∀U d,(execOp a.eval o).run P (w.tp U d noJ)=.ok (.value v) (w1.tp U d noJ))(h:GLe P b ro (.inRegion ops rest::k) E (a.put o.dst v) w1):GLe P b ro (.inRegion ops (i::rest)::k) E a w:=by
 intro S r Rr A D u gs N t q cs O x2 x3 x4 x5 C Y H I;have L:Ag2 o (yielded ops D.tmps)=true:=s.wanted _;refine pz (w:=w) (qJ (s':=execOp D.eval o) rfl (Ah (K:=tK P) Team.fc.ok s.sim (qw O C.gl)) (xB (Team.good (P:=P)).funcs (Team.good (P:=P)).methods a.eval (λ_=>rfl) o (λg hl=>by obtain⟨c,x,fn,p,q,Z,h2,_⟩:=hl;exact absurd h2 (s.nocall c x Z)) s.ok) hr x5 C.wr C.own λW n' M hn J=>?_) C Y H I
 cases hn with
 | @value _ v' hv=>
  refine⟨G (frR b A (D.put o.dst v') (.inRegion ops rest::k)) cs,λu' u1 us e=>⟨_,abU s.at_ L s.nd hk (by grind [Ajj]),λe he=>?_⟩,rfl,λr u2 gs N t q m X H I=>h S r W A _ u2 gs N t q cs (oV (O.mono M) hv o.dst) (by rw[put_defers,put_defers];exact x2.mono M) (x3.mono M) x4 J m X H I⟩;have:=mem_listed he
  simp_all
def abW(s:eU P ops i o)(hk:b.kind≠.early)(hr:∀U d,(execOp a.eval o).run P (w.tp U d noJ)=.ok .skip (w1.tp U d noJ))(h:GLe P b ro (.inRegion ops rest::k) E (a.put o.dst ud) w1):GLe P b ro (.inRegion ops (i::rest)::k) E a w:=by
 intro S r Rr A D u gs N t q cs O x2 x3 x4 x5 C Y H I;have L:Ag2 o (yielded ops D.tmps)=true:=s.wanted _;refine pz (w:=w) (qJ (s':=execOp D.eval o) rfl (Ah (K:=tK P) Team.fc.ok s.sim (qw O C.gl)) (xB (Team.good (P:=P)).funcs (Team.good (P:=P)).methods a.eval (λ_=>rfl) o (λg hl=>by obtain⟨c,x,fn,p,q,Z,h2,_⟩:=hl;exact absurd h2 (s.nocall c x Z)) s.ok) hr x5 C.wr C.own λW n' M hn J=>?_) C Y H I
 cases hn with
 |skip=>
  refine⟨G (frR b A (D.put o.dst ud) (.inRegion ops rest::k)) cs,λu' u1 us e=>⟨_,abV s.at_ L s.nd hk (by grind [Ajj]),λe he=>?_⟩,rfl,λr u2 gs N t q m X H I=>h S r W A _ u2 gs N t q cs (oV (O.mono M) rE o.dst) (by rw[put_defers,put_defers];exact x2.mono M) (x3.mono M) x4 J m X H I⟩;have:=mem_listed he
  simp_all
section
variable {l f f1:Nat} {fs fs1:Array (Nat×Deferred)} {lp:Loop}
def abX(hb:w.heap[l]? =some (.finalizers fs (some f)))(hd:decP P fs (some f)=some lp)(hr:lp.state=.ready)(H:decP P fs1 (some f1)=some (Loop.turn lp .busy lp.pending))(hk:b.kind≠.early)(h:GLe P b (some l) k E a (setBlock w l (.finalizers fs1 (some f1)))):GLe P b (some l) (.beginRound::k) E a w:=by
 intro S g Rr aa p u gs N t q cs x1 x2 O x4 x5 M X C D;have L:=O
 cases O with
 | @some _ l' hl=>
  refine pz (w:=w) (qJ (w1:=setBlock w l (.finalizers fs1 (some f1))) (s:=kS l fs (some f) fs1 (some f1) ()) (s':=Aar l') rfl (aY (abQ (K:=tK P) hl hd hr H)) (GH ()) (λτ d=>by rw[Ci];exact Gz (by grind [aP]) ()) x5 M.wr M.own λU n' J hn I=>⟨G (frR b (some l') p k) cs,λA u1 us e=>?_,rfl,λg u2 gs N t q m W C D=>h S g U (some l') p u2 gs N t q cs (x1.mono J) (x2.mono J) (L.mono J) x4 I m W C D⟩) M X C D;have r:(do Option.elim (some l') (stuck "beginRound: no round") Aar;pure Next.skip:Sem Next).runT P A #[]=(.ok .skip u1,us):=by simp_all
  have Y:stepG P true (G (frR b (some l') p (.beginRound::k)) cs) A=Afu P true true (frR b (some l') p (.beginRound::k)) cs none A:=rfl;have h2:=Eu (P:=P) (mn:=true) (fr:=frR b (some l') p (.beginRound::k)) rfl cs A;have Z:=Aj (P:=P) (fr:=frR b (some l') p (.beginRound::k)) (cs:=cs) hk r;exact⟨_,Y.trans (h2.trans Z),λe he=>mem_seen he⟩
theorem OX(j:Option Code)(H:∀(r:fR) (cs:List fR) p,r.todo=it->Afu P true true r cs none p=oJ P true r cs p j)(hb:w.heap[l]? =some (.finalizers fs (some f)))(X:decP P fs (some f)=some lp)(D:decP P fs1 (some f1)=some (Loop.turn lp (if j.isNone then .ready else .done) j))(Z:b.kind=.normal)(h:Q (.bool j.isNone) (setBlock w l (.finalizers fs1 (some f1)))):GLe P b (some l) it (wL P Q) a w:=by
 intro S g Rr aa O u gs L t q cs x1 x2 x3 x4 x5 J W A C;obtain⟨c,rest,rfl⟩:∃c rest,cs=c::rest:=by
  cases cs with
  |nil=>exact absurd rfl (x4 rfl)
  |cons c rest=>exact⟨c,rest,rfl⟩
 cases x3 with
 | @some _ l' hl=>
  refine pz (w:=w) (qJ (w1:=setBlock w l (.finalizers fs1 (some f1))) (s:=kS l fs (some f) fs1 (some f1) (Ahl j.isNone)) (s':=Abh l' j) rfl (aY (abR (K:=tK P) hl X j D)) (GH _) (λτ d=>by rw[Ci];exact Gz (by grind [aP]) _) x5 J.wr J.own λN M l2 hv I=>⟨G (c.finish M) rest,λp u1 us e=>?_,rfl,λg u2 gs L t q m U A C=>⟨0,gs,g,N,_,_,u2,L,t,q,rfl,U,⟨c,rest,_,M,rfl,rfl,hv,h⟩,I,m,⟨.refl _,.refl _ _⟩,A,C⟩⟩) J W A C;refine⟨seen P b.fn us,?_,λe Y=>mem_seen Y⟩
  show Afu P true true (frR b (some l') O it) (c::rest) none p=_
  rw[H _ _ _ rfl];unfold oJ;simp only[frR,Ahr,e];simp[doReturn,Z,GStep.after,G]
def abY(m:w.heap[l]? =some (.finalizers fs (some f)))(p:decP P fs (some f)=some lp)(d:decP P fs1 (some f1)=some (Loop.turn lp .ready none))(q:b.kind=.normal)(h:Q (.bool true) (setBlock w l (.finalizers fs1 (some f1)))):GLe P b (some l) [] (wL P Q) a w:=
 OX none (λg cs H e=>by
  obtain⟨fn,G,D,s,C,A,r⟩:=g;simp only at e;subst e;unfold oJ
  cases r<;>rfl) m p d q h
def abZ(hn:exitTo n k=none)(e:w.heap[l]? =some (.finalizers fs (some f)))(g:decP P fs (some f)=some lp)(d:decP P fs1 (some f1)=some (Loop.turn lp .done (some (.exit n))))(m:b.kind=.normal)(h:Q (.bool false) (setBlock w l (.finalizers fs1 (some f1)))):GLe P b (some l) (.code (.exit n)::k) (wL P Q) a w:=by grind [OX,Ep]
end
end
end
section
open Go.ChangeMaps (setBlock)
section
variable {P:pQ} [Team P] {b:fR} {ro:Option Nat} {E:List fR->Rl->wD->gO->Prop} {R:vL->wD->Prop} {Q:vL->wD->Prop} {a:Act} {w:wD} {it k:List Item} {ops:Array Oper} {i:Nat} {rest:List Nat} {o:Oper}
def GN{sl:Option (Nat×Nat)}(h:gY P S (nV P b R cs) gs u sl t Rr):Out P S b cs gs u sl t Rr R:=by obtain⟨N,d,q,p,s,O,M,g,L,H,I,r,⟨v,A,C⟩,J,m,e,D,G⟩:=h;exact⟨N,d,q,p,v,s,O,M,g,L,H,I,r,A,C,J,m,e,D,G⟩
def GR{sl:Option (Nat×Nat)}(h:Out P S b cs gs u sl t Rr R):gY P S (nV P b R cs) gs u sl t Rr:=by obtain⟨N,d,q,p,v,s,O,M,g,L,H,I,r,A,C,J,m,e,D,G⟩:=h;exact⟨N,d,q,p,s,O,M,g,L,H,I,r,⟨v,A,C⟩,J,m,e,D,G⟩
def Cj{c:fR}{sl:Option (Nat×Nat)}(hc:Out P S (Aks f) (c::cs) gs u sl t Rr Q)(h:∀v D m p,Q v m->Rr.le p->VR (tF P) p v D->Started m->∀(g:Nat->Prop) (u2:wD) (gs:Array gO) (sl:Option (Nat×Nat)) (t:Trace) (q:Nat->Nat),Mod P S g p m u2->gs[0]? =some (G (c.finish D) cs)->Alb P t gs q->Past (bW g) u2.heap.size t->gY P S E' gs u2 sl t p):gY P S E' gs u sl t Rr:=by
 obtain⟨N2,X,d2,p,v,g',m,u2,aa,t2,q2,r2,W,⟨T,N,O,d,rfl,Y,J,A⟩,Z,L,M,⟨r,s2⟩,H,I⟩:=hc;refine gY.ahead r2 r s2 (pz (w:=m) (qJ (w1:=m) (s:=results d T) (s':=results d N) rfl (aY (D8 (K:=tK P) d Y)) (zJ d T) A L M.wr M.own λU D l3 hv C=>⟨G (c.finish D) cs,λu' u1 us e=>⟨_,NK (a:=⟨N,[]⟩) rfl rfl J (by grind [Ajj]),λx hx=>?_⟩,rfl,h v D m U Z (r.trans l3) hv C⟩) M W H I);have h1:=mem_seen hx
 simp_all
def ab1{args:Array Operand}{ats:Array TypeId}(ho:ops[i]? =some o)(H:o.op=.call {callee:=.value (.func f),args,argTypes:=ats})(hg:o.guard=none)(X:P.funcs[f]? =some fn)(A:(fn.name== "runtime.NumGoroutine")=false)(W:fn.body.isNone=false)(hk:b.kind≠.early)(ha:args.all (aU (tF P) (tG P))=true)(hc:bT P f (args.map a.eval) w Q)(h:∀v w1,Q v w1->GLe P b ro (.inRegion ops rest::k) E (a.put o.dst v) w1):GLe P b ro (.inRegion ops (i::rest)::k) E a w:=by
 intro S D Rr g C u gs sl t q cs x1 x2 x3 x4 x5 x6 h0 hL hP;have hE:=qw (F:=tF P) (Gl:=tG P) x1 x6.gl;have Y:∀I,stepG P true (G (frR b g C (.inRegion ops (i::rest)::k)) cs) I=.go (G (Ac9 P f (args.map C.eval) .normal) (frR b g C (.inRegion ops (i::rest)::k)::cs)) I #[]:=λI=>by have e:(execOp C.eval o).runT P I #[]=(.ok (.enter f (args.map C.eval)) I,#[]):=Prod.ext (by grind [Ajj,run_call_body]) (events_call_body H X A W #[]);rw[GL ho (by grind [Ag2]) (λc e=>by rw[H]at e;cases e),xP (fr:=frR b g C (.inRegion ops (i::rest)::k)) hk (λd b r s k e=>by cases e) e,seen_none];rfl
 obtain⟨N1,J,u1,aa,t1,q1,r1,e1,m1,s1,M,O⟩:=beside_step rfl rfl Y x6 h0 hL hP;refine gY.ahead r1 (.refl _) s1 (Cj (hc S D Rr _ u1 J aa t1 q1 _ (mO hE ha) x5 m1 e1 M O) λv v' w' R2 hq p hv Z m u2 L ab t2 q2 m2 g2 N U=>?_);rw[GI v' ho]at g2;exact h v w' hq S m R2 g _ u2 L ab t2 q2 cs (oV (x1.mono p) hv o.dst) (by rw[put_defers,put_defers];exact x2.mono p) (x3.mono p) x4 Z m2 g2 N U
def ab2{x y:Tmp}{ats:Array TypeId}{l f:Nat}{fs:Array (Nat×Deferred)}{lp:Loop}(ho:ops[i]? =some o)(H:o.op=.call {callee:=.value (.tmp x),args:=#[.tmp y],argTypes:=ats})(hg:o.guard=none)(hk:b.kind≠.early)(hx:a.tmps.getD x ud=.func (.yield l) #[] #[])(hb:w.heap[l]? =some (.finalizers fs (some f)))(hd:decP P fs (some f)=some lp)(hp:lp.params.size=1)(p:GLe P (Aks lp.fn) (some l) [.code lp.assign,.beginRound,.code lp.body] (wL P Q) {tmps:=lp.tmps.setIfInBounds (lp.params.getD 0 0) (a.tmps.getD y ud),defers:=[]} w)(h:∀v w1,Q v w1->GLb P b (.inRegion ops rest::k) R (a.put o.dst v) w1):GLb P b (.inRegion ops (i::rest)::k) R a w:=by
 intro S r Rr g u gs sl t q cs x1 x2 x3 x4 h0 M O;have A:=x1.getD x;rw[hx]at A;obtain⟨l',hl,aa⟩:∃l',Rr.rel l l'/\g.tmps.getD x ud=.func (.yield l') #[] #[]:=by
  generalize g.tmps.getD x ud=z at A
  cases A with
  |yield hr=>exact⟨_,hr,rfl⟩
 have he:execOp g.eval o=Aer l' #[g.tmps.getD y ud]:=by
  cases o
  simp only at H;subst H;have e1:g.eval (.tmp x)=.func (.yield l') #[] #[]:=aa;have J:g.eval (.tmp y)=g.tmps.getD y ud:=rfl;simp only[execOp,resolve,Deferred.ofValue,e1,Ak7,Ai6,List.map_nil,J];rfl
 have Z:Ag2 o (yielded ops g.tmps)=true:=by simp[Ag2,hg]
 refine GN (pz (w:=w) (qJ (w1:=w) (s:=qN l fs (some f) >>= λ_=>pure Next.skip) (s':=Aer l' #[g.tmps.getD y ud]) (B:=λ_=>True) rfl (aY (abT (K:=tK P) hl hd hp (x1.getD y))) (aK OV λ_=>trivial) (λτ d=>by rw[Ala,OU (by grind [aP])];rfl) x3 x4.wr x4.own λR2 n' l2 hn Y=>?_) x4 h0 M O);obtain⟨_,t',ht,rfl⟩:=hn;refine⟨G (Frame.round l' lp.fn t' lp.assign lp.body .normal) (b.at g (.inRegion ops (i::rest)::k)::cs),λu' u1 us e=>?_,rfl,λr u2 gs sl t q m g0 M O=>?_⟩
 ·rw[<-he]at e;exact⟨seen P b.fn us,(stepG_oper ho Z).trans (En (fr:=b.at g (.inRegion ops (i::rest)::k)) hk e),λx hx=>mem_seen hx⟩
 obtain⟨N2,L,d2,R3,g',w',u3,ab,t2,q2,r2,J,⟨c,ac,v,v',W,X,hv,hq⟩,I,m2,⟨D,s2⟩,N,U⟩:=p S r R2 (some l') ⟨t',[]⟩ u2 gs sl t q (b.at g (.inRegion ops (i::rest)::k)::cs) ht .nil (.some (l2.rel _ _ hl)) yW Y m g0 M O
 cases W
 subst X;refine gY.ahead r2 D s2 (GR ?_);have C:(b.at g (.inRegion ops (i::rest)::k)).finish v'=b.at (g.put o.dst v') (.inRegion ops rest::k):=by rw[Ag0,ho];rfl
 rw[C]at J;exact h v w' hq S d2 R3 _ u3 L ab t2 q2 cs (oV ((x1.mono l2).mono D) hv o.dst) (by grind [put_defers]) I m2 J N U
end
end
section
open Go.ChangeMaps (setBlock)
section
variable {P:pQ} [Team P] {b:fR} {ro:Option Nat} {E:List fR->Rl->wD->gO->Prop} {R:vL->wD->Prop} {Q:vL->wD->Prop} {a:Act} {w:wD} {it k:List Item} {ops:Array Oper} {i:Nat} {rest:List Nat} {o:Oper}
omit [Team P] in
def OY(e:P.funcs[f]? =some fn)(d:(fn.name== "runtime.NumGoroutine")=false)(m:fn.body.isNone=false)(args:Array vL)(u:wD):(callFunc f args).runT P u #[]=(.ok (.enter f args) u,#[]):=by
 have g:¬fn.name= "runtime.NumGoroutine" :=by simpa using d
 have h2:¬fn.body=none:=by cases hx:fn.body<;>simp_all
 refine Prod.ext ?_ ?_
 ·rw[Ajj];simp[callFunc,e,g,h2]
 show (callFunc f args).events P u #[]=#[]
 simp[callFunc,e,g,h2]
def OZ{F:FuncId->Bool}{z:vL}(h:VR F Rr (.func (.func f) #[] caps) z):∃d,VRs F Rr caps d/\z=.func (.func f) #[] d:=by
 cases h with
 | @func _ a a' c c' hf h1 h2 h3 h4=>
  have e:a'=#[]:=by grind
  subst e;exact⟨_,⟨h3,h4⟩,rfl⟩
def O4{x:Tmp}{args:Array Operand}{ats:Array TypeId}(ho:ops[i]? =some o)(I:o.op=.call {callee:=.value (.tmp x),args,argTypes:=ats})(hg:o.guard=none)(hx:a.tmps.getD x ud=.func (.func f) #[] caps)(aa:P.funcs[f]? =some fn)(C:(fn.name== "runtime.NumGoroutine")=false)(Z:fn.body.isNone=false)(hk:b.kind≠.early)(ha:args.all (aU (tF P) (tG P))=true)(hc:bT P f (args.map a.eval++caps) w Q)(h:∀v w1,Q v w1->GLb P b (.inRegion ops rest::k) R (a.put o.dst v) w1):GLb P b (.inRegion ops (i::rest)::k) R a w:=by
 intro S D Rr m u gs sl t q cs x1 x2 x3 x4 h0 hL hP;have hE:=qw (F:=tF P) (Gl:=tG P) x1 x4.gl;have J:=x1.getD x;rw[hx]at J;obtain⟨g,A,af⟩:=OZ J;have he:execOp m.eval o=callFunc f (args.map m.eval++g):=by
  cases o
  simp only at I;subst I;have M:m.eval (.tmp x)=.func (.func f) #[] g:=af;simp only[execOp,resolve,Deferred.ofValue,M]
  show invoke (.fn (.func f) g) (#[]++args.map m.eval)=_
  rw[Ak3];rfl
 have ae:Ag2 o (yielded ops m.tmps)=true:=by simp[Ag2,hg]
 have ab:∀L,stepG P true (G (b.at m (.inRegion ops (i::rest)::k)) cs) L=.go (G (Ac9 P f (args.map m.eval++g) .normal) (b.at m (.inRegion ops (i::rest)::k)::cs)) L #[]:=λL=>by
  have e:(execOp m.eval o).runT P L #[]=(.ok (.enter f (args.map m.eval++g)) L,#[]):=by rw[he];exact OY aa C Z _ _
  refine(stepG_oper ho ae).trans ((xP (fr:=b.at m (.inRegion ops (i::rest)::k)) hk (λd b r s k e=>by cases e) e).trans ?_);rw[seen_none];rfl
 obtain⟨N1,N,u1,ag,t1,q1,r1,M,m1,s1,U,X⟩:=beside_step rfl rfl ab x4 h0 hL hP;refine GN (gY.ahead r1 (.refl _) s1 (Cj (hc S D Rr _ u1 N ag t1 q1 _ ((mO hE ha).append A) x3 m1 M U X) λv v' w' R2 hq ac hv ad p u2 O ah t2 q2 m2 g2 W Y=>?_));have H:(b.at m (.inRegion ops (i::rest)::k)).finish v'=b.at (m.put o.dst v') (.inRegion ops rest::k):=by rw[Ag0,ho];rfl
 rw[H]at g2;exact GR (h v w' hq S p R2 _ u2 O ah t2 q2 cs (oV (x1.mono ac) hv o.dst) (by grind [put_defers]) ad m2 g2 W Y)
def gK(n r:Nat)(d:Array vL):Array (Nat×Deferred):=#[(n,{target:=.collected r,args:=d})]
omit [Team P] in
def qO{q:Array Tmp×Code×Code}(h:((P.funcs[f]?).bind (·.body)).bind pX=some q)(n r:Nat)(d:Array vL):decP P (gK n r d) (some f)=some {state:=stN (n % 4),pending:=if n<4 then none else some (.exit (n / 4-1)),fn:=f,tmps:=d,params:=q.1,assign:=q.2.1,body:=q.2.2,defers:=r}:=by
 show (((P.funcs[f]?).bind (·.body)).bind pX).map _=_
 rw[h];rfl
def uM(f:FuncId)(d:Array vL):Sem (Nat×List Deferred):=do
 let r <-newObj (.deferred (some []))
 let l <-newObj (.finalizers (gK 0 r d) (some f))
 pure (l,[{target:=.collected r,args:=#[]}])
omit [Team P] in
def ab3{F:FuncId->Bool}{K:Kd}{R:Rl}{c m:Array vL}(hc:VRs F R c m){ps:Array Tmp}(G:K.dec=decP P)(h:((P.funcs[f]?).bind (·.body)).bind pX=some (ps,x,y)):Sim P F K (λR p d=>R.rel p.1 d.1/\DfR R p.2 d.2) R (uM f c) (Aa1 f m ps x y none):=by
 unfold uM Aa1;refine ah (tH λ_ _=>.opened) λq D r A s=>?_;have main:∀g,q.le g->Sim P F K (λR (p d:Nat×List Deferred)=>R.rel p.1 d.1/\DfR R p.2 d.2) g (do let l <-newObj (.finalizers (gK 0 r c) (some f));pure (l,[{target:=.collected r,args:=#[]}]))
  (do pure (<-newObj (.loop {state:=.ready,pending:=none,fn:=f,tmps:=m,params:=ps,assign:=x,body:=y,defers:=A}),[{target:=.collected A,args:=#[]}])):=λg h2=>by
  refine ah (tH λC e=>.far (l:={state:=.ready,pending:=none,fn:=f,tmps:=c,params:=ps,assign:=x,body:=y,defers:=r}) (by rw[G];exact qO h 0 r c) ⟨rfl,rfl,rfl,((hc.mono D).mono h2).mono e,rfl,rfl,rfl,e.rel _ _ (h2.rel _ _ s.1)⟩) λC e n I hn=>?_;exact ak λH h4=>⟨h4.rel _ _ hn.1,.cons ((h2.trans (e.trans h4)).rel _ _ s.1) .nil⟩
 exact main q (.refl _)
end
end
section
open Go.ChangeMaps (setBlock)
def nY(w:wD)(f:FuncId)(d:Array vL):wD:=(w.alloc (.deferred (some []))).alloc (.finalizers (gK 0 w.heap.size d) (some f))
section
variable {P:pQ} [Team P] {b:fR} {E:List fR->Rl->wD->gO->Prop} {a:Act} {w:wD} {k:List Item}
omit [Team P] in
def ab4(w:wD)(f:FuncId)(e:Array vL)(τ:Nat->Question->Nat)(d:Nat):(uM f e).run P (w.tp τ d noJ)=.ok (w.heap.size+1,[{target:=.collected w.heap.size,args:=#[]}]) ((nY w f e).tp τ d noJ):=by
 have hn:∀(o:Obj) (x:wD),(newObj o).run P x=.ok x.heap.size (x.alloc o):=by simp_all
 unfold uM;rw[Ala,hn];simp only[Ak6];rw[Ala,hn];simp only[Ak6,Sem.run_pure,aP];unfold nY;rw[<-qx,<-qx];simp[aP]
omit [Team P] in
def ab5(f:FuncId)(d:Array vL):aj P (uM f d):=by unfold uM;refine aK (qY P ⟨(by simp[Obj.started]),rfl⟩) λr=>aK (qY P ⟨trivial,rfl⟩) λl=>trivial
def ab6{x:Tmp}{ps:Array Tmp}{d:Code}{D:FuncId}(hx:a.tmps.getD x ud=.func (.func D) #[] caps)(ah:P.funcs[D]? =some fn)(N:(fn.name== "runtime.NumGoroutine")=false)(ae:fn.body.isNone=false)(hk:b.kind≠.early)(ai:((P.funcs[b.fn]?).bind (·.body)).bind pX=some (ps,c,d))(hc:bT P D (#[.func (.yield (w.heap.size+1)) #[] #[]]++caps) (nY w b.fn a.tmps) λ_ w2=>∃J C I,w2.heap[w.heap.size+1]? =some (.finalizers J (some b.fn))/\decP P J (some b.fn)=some C/\C.state≠.busy/\decP P I (some b.fn)=some (Loop.turn C .exhausted C.pending)/\
 GLe P b none ((C.pending.map Item.code).toList++k) E {tmps:=a.tmps,defers:={target:=.collected w.heap.size,args:=#[]}::a.defers} (setBlock w2 (w.heap.size+1) (.finalizers I (some b.fn)))):GLe P b none (.code (.rangeFunc (.tmp x) ps c d)::k) E a w:=by
 intro S H Rr an p u gs sl t q cs x1 x2 x3 x4 x5 x6 h0 W X
 cases x3
 obtain⟨A,L,al⟩:=OZ (by have:=x1.getD x;rw[hx]at this;exact this);refine pz (w:=w) (qJ (w1:=nY w b.fn a.tmps) (s:=uM b.fn a.tmps) (s':=Aa1 b.fn p.tmps ps c d none) rfl (aY (ab3 (K:=tK P) x1 rfl ai)) (ab5 _ _) (ab4 w _ _) x5 x6.wr x6.own λR2 g l2 hp ak=>?_) x6 h0 W X;refine⟨G (Ac9 P D (#[.func (.yield g.1) #[] #[]]++A) .normal) (frR b none ⟨p.tmps,g.2++p.defers⟩ (.inRangeFunc g.1::k)::cs),λu' u1 us e=>?_,rfl,λH u2 gs sl t q m g0 W X=>?_⟩
 ·have h1:stepG P true (G (frR b none p (.code (.rangeFunc (.tmp x) ps c d)::k)) cs) u'=Afu P true true (frR b none p (.code (.rangeFunc (.tmp x) ps c d)::k)) cs none u':=rfl;have h2:=Ew (P:=P) (mn:=true) (fr:=frR b none p (.code (.rangeFunc (.tmp x) ps c d)::k)) rfl cs u' e;have he:rangeCall (frR b none ⟨p.tmps,g.2++p.defers⟩ (.inRangeFunc g.1::k)) (.tmp x) g.1=callFunc D (#[.func (.yield g.1) #[] #[]]++A):=by
   have O:(frR b none ⟨p.tmps,g.2++p.defers⟩ (.inRangeFunc g.1::k)).eval (.tmp x)=.func (.func D) #[] A:=al;unfold rangeCall;have U:(frR b none ⟨p.tmps,g.2++p.defers⟩ (.inRangeFunc g.1::k)).eval (.const (.func (.yield g.1) #[] #[]))=.func (.yield g.1) #[] #[]:=rfl;simp only[resolve,Deferred.ofValue,O,Ak7,Ai6,List.map_nil,U]
   show invoke (.fn (.func D) A) (#[]++#[.func (.yield g.1) #[] #[]])=_
   rw[Ak3];rfl
  have h3:=xP (P:=P) (fr:=frR b none ⟨p.tmps,g.2++p.defers⟩ (.inRangeFunc g.1::k)) (cs:=cs) (s:=rangeCall (frR b none ⟨p.tmps,g.2++p.defers⟩ (.inRangeFunc g.1::k)) (.tmp x) g.1) (w:=u1) hk (λd b r s k e=>by cases e) (by rw[he];exact OY ah N ae _ _);refine⟨_,h1.trans (h2.trans (congrArg (GStep.after (seen P b.fn us)) h3)),λy hy=>?_⟩
  grind [seen_none,mem_seen]
 refine Cj (hc S H R2 _ u2 gs sl t q _ ((show VRs (tF P) R2 #[.func (.yield (w.heap.size+1)) #[] #[]] #[.func (.yield g.1) #[] #[]]from⟨rfl,λi v v' O U=>?_⟩).append (L.mono l2)) ak m g0 W X) λv v' w' R3 hq M hv Y aa u3 ab ao t3 q3 m3 g3 ac ad=>?_
 ·match i,O,U with
  |0,O,U=>cases O;cases U;exact .yield hp.1
 obtain⟨J,C,I,am,af,aj,ag,hG⟩:=hq;have g4:ab[0]? =some (G (frR b none ⟨p.tmps,g.2++p.defers⟩ (.endRangeFunc g.1::k)) cs):=g3;refine pz (w:=w') (qJ (w1:=setBlock w' (w.heap.size+1) (.finalizers I (some b.fn))) (s:=kS (w.heap.size+1) J (some b.fn) I (some b.fn) C.pending) (s':=Aby g.1) rfl (aY (abS (K:=tK P) (M.rel _ _ hp.1) af aj ag)) (GH _) (λτ d=>by rw[Ci];exact Gz (by grind [aP]) _) Y m3.wr m3.own λR4 j' l4 hj Z=>?_) m3 g4 ac ad;subst hj;refine⟨G (frR b none ⟨p.tmps,g.2++p.defers⟩ ((C.pending.map Item.code).toList++k)) cs,λu' u1 us e=>⟨seen P b.fn us,?_,λy hy=>mem_seen hy⟩,rfl,λH u2 gs sl t q m g0 W X=>hG S H R4 none ⟨p.tmps,g.2++p.defers⟩ u2 gs sl t q cs (((x1.mono l2).mono M).mono l4) (((hp.2.append (x2.mono l2)).mono M).mono l4) .none yW Z m g0 W X⟩
 show Afu P true true (frR b none ⟨p.tmps,g.2++p.defers⟩ (.endRangeFunc g.1::k)) cs none u'=_
 simp only[Afu,frR,Ahr,e];simp[GStep.after,G]
end
end
section
open Go.ChangeMaps (setBlock)
section
variable {P:pQ} [Team P] {b:fR} {E:List fR->Rl->wD->gO->Prop} {a:Act} {w:wD} {k:List Item}
def ab7{S:Act->wD->Prop}(al:Kn P b.fn)(hk:b.kind≠.early)(hc:fE P (tF P) (tG P) c=true)(am:codeOk true c=true)(hS:∀a w C d,S a (w.tp C d noJ)->S a w)(h:∀C,c.wp P (λe A O=>e=.normal/\A.defers=a.defers/\S A O) a (w.tp C 0 noJ))(hn:∀A O,A.defers=a.defers->S A O->GLe P b none k E A O):GLe P b none (.code c::k) E a w:=by
 intro Sh dead Rr au A u gs sl t q cs x1 x2 x3 x0 x5 U h0 hL hP
 cases x3
 have aj:FrR P (tF P) (tG P) k Rr (b.at a [.code c,fK]) (b.at A (.code c::k)):=⟨rfl,al,.cons (.same (it:=.code c) hc) (.halt rfl),x2,rfl,hk,rfl,.none,x1⟩;have hg:GoK P (tF P) (tG P) k cs Rr (G (b.at a [.code c,fK]) []) (G (b.at A (.code c::k)) cs):=⟨aj,.nil,rfl,rfl,rfl,rfl,.inl rfl,λx hx=>(by cases hx),.inl rfl,rfl,rfl⟩;have J:jR (G (b.at a [.code c,fK]) []):=by
  refine⟨⟨λit L=>?_,λd ai=>?_,hk⟩,λx hx=>by cases hx⟩
  ·rcases Ab3.1 L with rfl|L
   ·exact am
   rcases Ab3.1 L with rfl|L
   ·exact(rfl:codeOk true (.cond (.const ud) .skip .skip)=true)
   cases L
  obtain⟨r,rfl⟩:=x2.marks d ai;trivial
 have ad:Run P (pO λg O=>∃a1,g=G (b.at a1 [fK]) []/\a1.defers=a.defers/\S a1 O) (G (b.at a [.code c,fK]) []) w:=by
  refine DU Team.good (λg w C d D=>?_) ⟨J,rfl,rfl,x5⟩ λC=>?_
  ·grind
  obtain⟨e,a1,w1,⟨he,I,D⟩,Z⟩:=h C b [fK] [];subst he;obtain⟨n,hn⟩:=Z;exact⟨n,_,hn,⟨G (b.at a1 [fK]) [],w1,rfl,rfl,rfl,⟨a1,rfl,I,D⟩⟩,AZ Team.good Team.fc n (u:=u.tp C 0 noJ) U.gl hg J (fC x5 C 0) (by have:=U.wr.tps C 0;rwa [fB]at this) hn (rG rfl rfl (.inl rfl))⟩
 refine pz (dead:=dead) (w:=w) (Rr:=Rr) ?_ U h0 hL hP;refine(Ey Team.good Team.fc (mn:=true) (λg w D=>?_) (S:=Sh) (R0:=Rr) ad Rr _ u (.refl _) (λ_ _ h=>h) hg J x5 U.gl U.own U.wr).mono ?_
 ·obtain⟨_,rfl,_⟩:=D.1;exact rG rfl rfl (.inl rfl)
 rintro H g' u1 ⟨R1,g1,w1,l1,_,⟨D,s⟩,ak,ae,rfl,ah⟩;obtain⟨ag,ap,st,dy,ar⟩:=g';have ab:=ah;obtain⟨a1,rfl,I,D⟩:=D;obtain⟨X,W,_,ac,_,Y,_,_,_,_,aa⟩:=ak;simp only[G]at X W ac Y aa;subst ac Y aa
 cases W
 obtain⟨aq,M,N,p,ao,an,af⟩:=ag;obtain⟨q1,_,q3,q4,q5,_,q7,q8,q9⟩:=X;simp only[Ahr]at q1 q3 q4 q5 q7 q8 q9;subst q1 q5 q7
 cases q8
 have e:N=k:=by
  cases q3 with
  |cons L _=>cases L with
   |same h=>cases h
  |halt _=>rfl
 subst e;exact⟨R1,w1,rfl,s.started,ae,ab,l1,λdead gs sl t q m g0 hL hP=>hn a1 w1 I D Sh dead R1 none ⟨M,p⟩ u1 gs sl t q _ q9 q4 .none yW s.started m g0 hL hP⟩
def kT(w:wD):List Nat->wD
 |[]=>w
 |r::rs=>kT (setBlock w r (.deferred none)) rs
abbrev uN(r:Nat):Deferred:={target:=.collected r,args:=#[]}
omit [Team P] in
def ab8{r:Nat}(h:w.heap[r]? =some (.deferred (some []))):(sU r).run P w=.ok [] (setBlock w r (.deferred none)):=by simp[sU,getObj,setObj,Ala,Sem.run,h,Ak9,setBlock]
end
end
section
open Go.ChangeMaps (setBlock)
section
variable {P:pQ} [Team P] {b:fR} {R:vL->wD->Prop} {a:Act} {w:wD} {k:List Item}
omit [Team P] in
def sD(w:wD){l:Nat}(o:Obj)(h:n≠l):(setBlock w l o).heap[n]? =w.heap[n]? :=by
 simp only[setBlock]
 grind
theorem O5{fn:Func}(Z:P.funcs[b.fn]? =some fn){v:vL}{T:Array vL}{p:List Item}{cs:List fR}:∀(D:List Nat) (w:wD),(∀r∈D,w.heap[r]? =some (.deferred (some [])))->D.Nodup->(∀Y d,(results fn T).run P ((kT w D).tp Y d noJ)=.ok v ((kT w D).tp Y d noJ))->R v (kT w D)->Started w->
 ∀(S g:Nat->Prop) (Rr:Rl) (C:Array vL) (A:List Deferred) (u:wD) (gs:Array gO) (H:Option (Nat×Nat)) (t:Trace) (q:Nat->Nat),VRs (tF P) Rr T C->DfR Rr (D.map uN) A->Mod P S g Rr w u->gs[0]? =some (G {b.at ⟨C,A⟩ p with mode:=.returning} cs)->Alb P t gs q->Past (bW g) u.heap.size t->gY P S (nV P b R cs) gs u H t Rr
 |[],w,_,_,hv,hR,hst=>λS g Rr C A u gs H t q W X m M I J=>by
  cases X
  exact⟨0,gs,g,Rr,_,w,u,H,t,q,rfl,M,⟨v,⟨T,C,p,fn,rfl,W,Z,hv⟩,hR⟩,hst,m,⟨.refl _,.refl _ _⟩,I,J⟩
 |r::D,w,hrs,hnd,hv,hR,hst=>λS g Rr C A u gs H t q W X m M I J=>by
  obtain⟨N,O⟩:=List.nodup_cons.1 hnd
  cases X with
  | @cons _ r' _ ds2 hr hds=>
   refine pz (w:=w) (qJ (w1:=setBlock w r (.deferred none)) (s:=sU r) (s':=sU r') rfl (aY (Kz (K:=tK P) hr)) (Ju r) (λY d=>by rw[Ci];exact ab8 (by grind [aP,List.mem_cons_self])) hst m.wr m.own λR2 v' l2 U L=>⟨G {b.at ⟨C,ds2⟩ p with mode:=.returning} cs,λu' u1 us e=>⟨seen P b.fn us,?_,λx hx=>mem_seen hx⟩,rfl,λg u2 gs H t q m g0 I J=>?_⟩) m M I J
   ·obtain⟨_,rfl⟩:=U
    show unwind P true {b.at ⟨C,uN r'::ds2⟩ p with mode:=.returning} cs none u'=_
    unfold unwind;simp only[Ahr,e];simp[GStep.after,G]
   exact O5 Z D _ (λr2 h2=>by rw[sD w (n:=r2) (l:=r) _ (λe=>N (by grind))];exact hrs r2 (List.mem_cons_of_mem _ h2)) O hv hR L S g R2 C ds2 u2 gs H t q (W.mono l2) (hds.mono l2) m g0 I J
def ab9(Y:P.funcs[b.fn]? =some fn){e:List Nat}(X:a.defers=e.map uN)(H:∀r∈e,w.heap[r]? =some (.deferred (some [])))(D:e.Nodup)(Z:∀M d,(results fn a.tmps).run P ((kT w e).tp M d noJ)=.ok v ((kT w e).tp M d noJ))(h:R v (kT w e)):GLe P b none (.code .ret::k) (nV P b R) a w:=by
 intro S m Rr aa g u gs sl t q cs x1 L x3 x4 x5 x6 O U W
 cases x3
 have C:∀J,stepG P true (G (frR b none g (.code .ret::k)) cs) J=.go (G {b.at ⟨g.tmps,g.defers⟩ (.code .ret::k)with mode:=.returning} cs) J #[]:=λJ=>by simp[G,stepG,Afu,Ahr]
 obtain⟨N1,p,u1,I,t1,q1,r1,N,m1,s1,s,A⟩:=beside_step rfl rfl C x6 O U W;rw[X]at L;exact gY.ahead r1 (.refl _) s1 (O5 Y e w H D Z h x5 S m Rr g.tmps g.defers u1 p I t1 q1 x1 L m1 N s A)
end
end
end Go.Tp
namespace Go.Proofs.Y
open Go.RowKit Go.Tp Go.Meter Go.Conc Go.ConcN
variable {w u:wD} {l b8 base:Nat} {v:vL} {R:vL->wD->Prop}
section
open Go.ChangeMaps (setBlock)
def c98(n s:Int)(w:wD):cF tP 98 #[.int qi n,.int qi s] w λe d=>e=rT (.func (.func 148) #[] #[.pointer (some ⟨w.heap.size+1,0,none⟩),.pointer (some ⟨w.heap.size,0,none⟩)])/\d=(w.alloc (.cells #[.int qi n] 3)).alloc (.cells #[.int qi s] 3):=by
 go_enter func98,ntmps98;go_wp2;go_ret
 simp_all
structure Kx (l b8:Nat) (w w':wD):Prop where
 block:∀b,b<w.heap.size->b≠l->b≠b8->w'.heap[b]? =w.heap[b]?
 size:w.heap.size<=w'.heap.size
 os:w'.os=w.os
 output:w'.output=w.output
def Kx.refl(l b8:Nat)(w:wD):Kx l b8 w w:=⟨λ_ _ _ _=>rfl,nR _,rfl,rfl⟩
theorem Kx.trans{x:wD}(h:Kx l b8 w u)(k:Kx l b8 u x):Kx l b8 w x:=⟨λb e d h2=>(k.block b (Ajg e h.size) d h2).trans (h.block b e d h2),Nat.le_trans h.size k.size,k.os.trans h.os,k.output.trans h.output⟩
def Kx.of_kp(h:Kp w u):Kx l b8 w u:=⟨λb d _ _=>h.block b d,h.size,h.os,h.output⟩
def Kx.setL(o:Obj):Kx l b8 w (setBlock w l o):=⟨λb _ h _=>sD w o h,by simp[setBlock],rfl,rfl⟩
def Kx.set8(v:vL):Kx l b8 w (w.setCell ⟨b8,0,none⟩ v):=⟨λb _ _ h=>Below.heap_setCell _ _ _ _ h,by rw[World.size_setCell];exact nR _,rfl,rfl⟩
def Kx.kp{d:wD}(h:Kp d w)(k:Kx l b8 w u)(m:d.heap.size<=l)(g:d.heap.size<=b8):Kp d u:=⟨λb e=>(k.block b (Ajg e h.size) zP zP).trans (h.block b e),Nat.le_trans h.size k.size,k.os.trans h.os,k.output.trans h.output⟩
def aF.kx{d:Option aD}{xs:List Int}(h:aF w d xs)(k:Kx l b8 w u)(m:∀j,w.cell? ⟨l,j,none⟩=none)(g:∀j v,w.cell? ⟨b8,j,none⟩=some v->∀x,v≠.int qi x):aF u d xs:=λi x hx=>by obtain⟨b,o,e,hc⟩:=h i x hx;refine⟨b,o,e,?_⟩;have hlt:=wBk w _ hc;rw[World.cell?_of_block (w:=w) (k.block b hlt (λe=>by subst e;rw[m]at hc;cases hc) (λe=>by subst e;exact g _ _ hc _ rfl))];exact hc
end
def GU(w:wD)(a:Option aD)(l:List Bool):Prop:=∀(i:Nat) (x:Bool),l[i]? =some x->∃b o,a=some ⟨b,o,none⟩/\w.cell? ⟨b,o+i,none⟩=some (.bool x)
def bools(l:List Bool):List vL:=l.map Ahl
def acd{n:Nat}{xs:List Bool}(h:w.ownsRow base 4 1 v n (bools xs))(hn:n=xs.length):∃p pc,v=.slice p n pc/\GU w p xs:=by
 rcases h.2 with⟨rfl,q⟩|⟨g,d,m,rfl,r,h2,s,h4,h5,h6⟩
 ·exact⟨none,0,by rw[q],λi x hx=>by have:=(lS.1 hx).1;omega⟩
 refine⟨some ⟨g,0,none⟩,d,rfl,λi x hx=>⟨g,0,rfl,?_⟩⟩;have A:=(lS.1 hx).1;simp only[Aeq,h2];have e:m.toList[i]? =(bools xs)[i]? :=by rw[<-h6,Aim zP]
 simp only[Nat.zero_add,Ak4,kF,if_false];rw[<-Ak2,e];simp[bools,hx]
def ace(t:Bool)(C:Option aD)(xs:List Bool)(q:Nat)(w:wD)(A:GU w C xs)(L:xs.length<=1000000):
 cF tP 151 #[.slice C xs.length q,.bool t] w λe H=>e=rT (.int qi (firstAt (λx=>t==x) xs 0))/\w=H:=by
 have G:=lH A;clear A;go_enter func151,ntmps151
 go_wp2_with fail
 go_loop [8] (λi=>∃k:Nat,k<=xs.length/\i=.int qi (k:Int)/\firstAt (λx=>t==x) xs 0=firstAt (λx=>t==x) (xs.drop k) k) (λi=>xs.length-(intOf i).toNat)
 case atStart=>exact⟨0,Aih _,rfl,rfl⟩
 case round=>
  obtain⟨k,J,rfl,g⟩:=hrel;have d:=lH g;clear g;by_cases hlt:k<xs.length
  ·have hx:xs[k]? =some xs[k]:=lG hlt;obtain⟨b,o,rfl,I⟩:=G.out k _ hx;generalize xs[k]=x at*;have r:=lH hx;clear hx
   cases m:(t==x)with
   |true=>
    have p:=lH m
    go_wp2_with fail
    go_ret;exact⟨by rw[d.out,yg r.out p.out];rfl,rfl⟩
   |false=>
    have p:=lH m
    go_wp2_with fail
    go_round
    case rel=>exact⟨k+1,zP,by go_num,by rw[d.out,yh r.out p.out]⟩
    case measure=>simp[intOf];omega
  have hke:k=xs.length:=zP
  have s:firstAt (λx=>t==x) xs 0= -1:=by rw[d.out,hke,List.drop_length];rfl
  have D:=lH s;clear s d
  go_wp2_with fail
  go_ret;exact⟨by rw[D.out];rfl,rfl⟩
theorem O6(t:Bool):∀(xs:List Bool) (k:Nat),(0<=firstAt (λx=>t==x) xs k↔xs.contains t=true)/\ -1<=firstAt (λx=>t==x) xs k
 |[],k=>by simp[firstAt]
 |x::xs,k=>by
  have d:=O6 t xs (k+1);unfold firstAt;rw[List.contains_cons]
  cases e:(t==x)with
  |true=>simp
  |false=>simpa using d
def acf(t:Bool)(q:Option aD)(xs:List Bool)(m:Nat)(w:wD)(A:GU w q xs)(s:xs.length<=1000000):
 cF tP 111 #[.slice q xs.length m,.bool t] w λe D=>e=rT (.bool (xs.contains t))/\w=D:=by
 have g:=lH (ace t q xs m w A s);obtain⟨r,p⟩:=O6 t xs 0;clear A s;have d:decide (0<=firstAt (λx=>t==x) xs 0)=xs.contains t:=by rw[Ai4,decide_eq_true_iff];exact r
 have C:=lH d;clear r p d;generalize firstAt (λx=>t==x) xs 0=y at*;go_enter func111,ntmps111
 go_wp2_with (go_at_call 151;refine g.out.mono ?_;rintro e u ⟨rfl,rfl⟩)
 go_ret;exact⟨by rw[<-C.out];rfl,rfl⟩
def own_below{w':wD}{e:TypeId}{d n:Nat}{xs:List vL}(h:w.ownsRow base e d v n xs)(g:bX w.heap.size w w'):w'.ownsRow base e d v n xs:=h.kept (grown_of g none) (by cases m:v.ownBlock with
 |none=>exact .inl rfl
 |some y=>exact .inr yW)
def info4:(tP.info? 4).map (λi=>(i.zero,i.size,i.bytes))=some (some (.bool false),1,1):=xD
def GV:(tP.info? 60).map (λi=>(i.zero,i.size,i.bytes))=some (some (.int qi 0),1,8):=xD
def sF(l:List Bool):Int:=if l.contains false=false then 1 else if l.contains true=false then 2 else 0
def uO(B:Bk)(i:Nat):Int:=sF ((B.hs (B.callAt i).line.toNat).map λp=>(p.c i).made)
def pF(B:Bk):List Int:=(Aes B.C.length).map (uO B)
def kU(B:Bk):Int:=aA B true 0
def acg{xs:List Int}(h:w.ownsRow base 60 1 v xs.length (ints xs)):wI w xs v:=by
 rcases h.2 with⟨rfl,p⟩|⟨g,d,m,rfl,q,h2,r,h4,h5,h6⟩
 ·exact⟨none,0,by rw[p],λi x hx=>by have:=(lS.1 hx).1;omega,λx hx=>by cases hx⟩
 refine⟨some ⟨g,0,none⟩,d,rfl,λi x hx=>⟨g,0,rfl,?_⟩,λx hx=>by cases hx;exact⟨_,_,_,h2⟩⟩;have s:=(lS.1 hx).1;simp only[Aeq,h2];have e:m.toList[i]? =(ints xs)[i]? :=by rw[<-h6,Aim zP]
 simp only[Nat.zero_add,Ak4,kF,if_false];rw[<-Ak2,e];simp[ints,hx]
section
variable {w:wD} {V:BkV} {B:Bk}
def qP:Code:=(f39.body).getD .skip
def maA:Code:=sqL qP
def maE:Code:=sqL (sqR qP)
def maF:Code:=sqR (sqR qP)
def ach{k:List Item}(K:∀m w1 (g:Nat),Sl m 63 [(1,.pointer (some ⟨g,0,none⟩))]->Kp w w1->Cells w1 (aB g V B)->GLb tP (Aks 39) k R m w1):
 GLb tP (Aks 39) (.code maA::k) R {tmps:=#[V.val B]++Afc (f39.ntmps-1) ud,defers:=[]} w:=by
 refine fP (S:=λa w1=>∃g:Nat,Sl a 63 [(1,.pointer (some ⟨g,0,none⟩))]/\Kp w w1/\Cells w1 (aB g V B)) ⟨f39,rfl,xD⟩ xN rfl xD xD (λa w1 s d ⟨g,p,h2,q⟩=>⟨g,p,Kp.tp_r.1 h2,gX.1 q⟩) (λs=>?_) λm w1 _ ⟨g,p,h2,q⟩=>K m w1 g p h2 q;obtain⟨W,r⟩:∃W,W=w.tp s 0 noJ:=⟨_,rfl⟩;have A:Kp w W:=by rw[r];exact Kp.tp_r.2 (.refl _)
 rw[<-r];clear r;obtain⟨za,la,C,pa,zc,lc,cc,pc⟩:=V;simp only[maA,sqL,qP,f39,Agx,Ags,Agt,Akx,Akw,Akp,Akn,Nat.reduceSub];go_wp2;refine⟨W.heap.size,⟨rfl,rfl,rfl,trivial⟩,?_,?_⟩
 ·iterate 1 refine Kp.trans ?_ (Kp.alloc _ _)
  exact A
 simp only[aB,Cells,and_true];go_simp
def aci:List Nat:=[4,0,0,1,2,3,2,2]
def acj{k:List Item}{a:Act}{w1:wD}{I:Nat}(N:GBk w V B)(hS:Sl a 63 [(1,.pointer (some ⟨I,0,none⟩))])(J:Kp w w1)(hc:Cells w1 (aB I V B))(K:∀A s,Sl A 63 [(1,.pointer (some ⟨I,0,none⟩))]->Kp w1 s->A.tmps[5]?.getD ud=.int qi (aA B true 0)->fQ w.heap.size w1.heap.size V B (aA B true 0) (A.tmps[4]?.getD ud) s->GLb tP (Aks 39) k R A s):GLb tP (Aks 39) (.code maE::k) R a w1:=by
 have X:(Aks 39).kind≠.early:=by intro e;cases e
 have aa:=N.bk.nl;simp only[maE,sqL,sqR,qP,f39,Agx];refine uH rfl hS [[],[0],[1],[2],[2],[],[5,3,1,0,2],[4,6,0,1,2,3,5]] ([some 14,some 15,some 13,some 16,some 17,some 4,none,some 5]:List (Option Nat)) (λi v u=>aN w.heap.size w1.heap.size V B (aA B true 0) [(V.val B:vL)] v u (aci.getD i 0)) 6 5 (fQ w.heap.size w1.heap.size V B (aA B true 0)) xD xD (ks:=[1]) rfl xD zE zE ⟨zE,zE⟩ rfl ?_ ?_ λA s L h2 M h4=>K A s L h2 (M 7 zE zE) h4
 ·intro fd a1 s i rest D C g m hi r G K;obtain⟨_,_,s1,_⟩:=C;have U:=g.cells hc;obtain⟨q0,q1,q2,q3,q4,q5,q6,-⟩:=U;have O:=N.kp (J.trans g);have Y:=(J.trans g).size
  match i,hi with
  |0,_=>exact kpk (V.val B) (okA rfl) (λH d=>by simp[go_sem,aT,s1,q0,q1,q2,q3,q4,q5,q6]) rfl g K
  |1,_=>
   have v0:a1.tmps[14]?.getD ud=V.val B:=m 0 zE zE (r 0 zE);refine o8 (Ri:=λv u=>aN w.heap.size w1.heap.size V B (aA B true 0) [(V.val B:vL)] v u 0) (f:=81) (fn:=f81) rfl rfl rfl rfl rfl rfl X rfl xD ?_ (λu Z=>⟨λj _ _ _ _ h=>h.kp Z,λW=>absurd rfl (G W 1 zE)⟩) g K;have e:(#[Operand.tmp 14,.const (.bool true),.const (.int qi 0)]:Array Operand).map a1.eval=#[V.val B,.bool true,.int qi 0]:=by simp[Act.eval,v0]
   rw[e];exact uI O _ _ Y
  |2,_=>have v1:aN w.heap.size w1.heap.size V B (aA B true 0) [] (a1.tmps[15]?.getD ud) s 0:=m 1 zE zE (r 1 zE);exact kpk (a1.tmps[15]?.getD ud) (okA rfl) (λH d=>by simp[go_sem]) v1 g K
  |3,_=>have v2:aN w.heap.size w1.heap.size V B (aA B true 0) [] (a1.tmps[13]?.getD ud) s 0:=m 2 zE zE (r 2 zE);obtain⟨y,y1,y2⟩:=v2;exact kpk y (okA rfl) (λH d=>by simp[go_sem,y1]) y2 g K
  |4,_=>have v2:aN w.heap.size w1.heap.size V B (aA B true 0) [] (a1.tmps[13]?.getD ud) s 0:=m 2 zE zE (r 2 zE);obtain⟨y,y1,y2⟩:=v2;exact kpk (.int qi (aA B true 0)) (okA rfl) (λH d=>by simp[go_sem,y1]) rfl g K
  |5,_=>
   refine rV (.pointer (some ⟨s.heap.size,0,none⟩)) (.cells #[.int qi 0,.int qi 0,.int qi 0,.slice none 0 0,.slice none 0 0,.slice none 0 0,.slice none 0 0,.map none,.slice none 0 0] 118) (okA rfl) X rfl (λH d=>?_) (λu Z=>⟨λj _ _ _ _ h=>h.kp Z,λW=>absurd rfl (G W 5 zE)⟩) g ⟨s.heap.size,_,rfl,g.size,last_at rfl,rfl⟩ K λe=>by cases e
   simp[go_sem];rw[aP]
  |7,_=>have v4:aN w.heap.size w1.heap.size V B (aA B true 0) [] (a1.tmps[17]?.getD ud) s 2:=m 4 zE zE (r 4 zE);replace v4:a1.tmps[17]?.getD ud=.int qi (aA B true 0):=v4;exact kpk (.int qi (aA B true 0)) (okA rfl) (λH d=>by simp[go_sem,v4]) rfl g K
  |6,_=>exact absurd rfl D
 intro fd a1 s rest C g m r K;have v3:aN w.heap.size w1.heap.size V B (aA B true 0) [(V.val B:vL)] (a1.tmps[4]?.getD ud) s 3:=m 5 zE zE (r 5 zE);have v1:aN w.heap.size w1.heap.size V B (aA B true 0) [(V.val B:vL)] (a1.tmps[16]?.getD ud) s 1:=m 3 zE zE (r 3 zE);refine uJ (p:=4) (q:=16) (okA rfl) rfl X rfl (N.kp J) g v3 v1 λw3 L h2 M=>K w3 L (λj _ _ _ h=>h2 _ _ h) M
def acn{a:Act}{w1:wD}{b1 n1:Nat}(hG:GBk w V B)(hd:a.defers=[])(hS:Sl a 63 [(1,.pointer (some ⟨b1,0,none⟩))])(h0:Kp w w1)(hc:Cells w1 (aB b1 V B))(e5:a.tmps[5]?.getD ud=.int qi (kU B))(aT:fQ w.heap.size n1 V B (kU B) (a.tmps[4]?.getD ud) w1)(hR:∀v U,jJ w (kU B) (pF B) v U->R v U):GLb tP (Aks 39) [.code maF] R a w1:=by
 refine o7 (fn:=f39) (Q:=jJ w (kU B) (pF B)) rfl xD xN hd xD xD (λv U τ d h=>jJ.tp h) (λτ=>?_) hR;obtain⟨W,hW⟩:∃W,W=w1.tp τ 0 noJ:=⟨_,rfl⟩;obtain⟨b4,l,e4,_,hO,a8,aa⟩:=aT;replace h0:Kp w W:=by rw[hW];exact Kp.tp_r.2 h0
 replace hc:Cells W (aB b1 V B):=by rw[hW];exact gX.2 hc
 replace hO:bQ w.heap.size V B (kU B) (.agg l) W:=by rw[hW];exact bQ.tp.2 hO
 replace aa:W.heap[b4]? =some (.cells l 118 (0,0)):=by rw[hW,aP];exact aa
 rw[<-hW];clear hW;have af:Sl a 63 [(5,.int qi (kU B)),(4,.pointer (some ⟨b4,0,none⟩)),(1,.pointer (some ⟨b1,0,none⟩))]:=⟨hS.1,hS.2.1,e5,e4,hS.2.2⟩;have H0:=lH h0;by_cases ag:kU B=0
 ·obtain⟨hA,az,m,C,hl,aG⟩:=hO.2 ag
  have hF:=kK hA;rw[uK hl]at aa;have ax:=hG.bk.at_.kp h0;have ba:=hF.nc;have HX:Hid (∀i,i<B.C.length->∃(cb co k:Nat) (x:Cl) (oa:Option aD) (aj:Nat),i<3/\k<B.L.length/\V.ca=some ⟨cb,co,none⟩/\B.C[i]? =some x/\uO B i=sF ((B.hs k).map λp=>(p.c i).made)/\(B.hs k).length<=3000/\
   Cells W [(⟨cb,co+i*7,none⟩,.int qi (k:Int)),(⟨cb,co+i*7+1,none⟩,.int qi x.far),(⟨cb,co+i*7+2,none⟩,.int qi x.a0),(⟨cb,co+i*7+3,none⟩,.int qi x.a1),(⟨cb,co+i*7+4,none⟩,.int qi x.c0),(⟨cb,co+i*7+5,none⟩,.int qi x.c1),(⟨cb,co+i*7+6,none⟩,.int qi x.made),(⟨b4,8,none⟩,.slice (some ⟨C,0,none⟩) B.L.length B.L.length),(⟨b1,5,none⟩,.slice V.ca B.C.length V.cc),(⟨C,k,none⟩,.slice oa (B.hs k).length aj)]/\
   ∀j,j<(B.hs k).length->∃(p:Past) (O:Nat),(B.hs k)[j]? =some p/\oa=some ⟨O,0,none⟩/\Cells W [(⟨O,j*10,none⟩,.int qi p.start),(⟨O,j*10+1,none⟩,.bool (p.c 0).made),(⟨O,j*10+2,none⟩,.int qi (p.c 0).ans),(⟨O,j*10+3,none⟩,.int qi (p.c 0).clr),(⟨O,j*10+4,none⟩,.bool (p.c 1).made),(⟨O,j*10+5,none⟩,.int qi (p.c 1).ans),(⟨O,j*10+6,none⟩,.int qi (p.c 1).clr),(⟨O,j*10+7,none⟩,.bool (p.c 2).made),(⟨O,j*10+8,none⟩,.int qi (p.c 2).ans),(⟨O,j*10+9,none⟩,.int qi (p.c 2).clr)]):=lH λi A=>by
   have hx:B.C[i]? =some B.C[i]:=lG A;have ay:=hF.call i _ hx;obtain⟨cb,co,aq,y0,y1,y2,y3,y4,y5,y6⟩:=ax.C i _ hx;have aH:B.callAt i=B.C[i]:=by unfold Bk.callAt;rw[hx];rfl
   have hM:uO B i=sF ((B.hs B.C[i].line.toNat).map λp=>(p.c i).made):=by unfold uO;rw[aH]
   clear aH;generalize B.C[i]=x at*;obtain⟨k,aY⟩:∃k:Nat,x.line=(k:Int):=⟨x.line.toNat,by have:=ay.line;omega⟩;have hk:k<B.L.length:=by have:=ay.line;omega
   have aX:x.line.toNat=k:=zP
   rw[aY]at y0;rw[aX]at hM;obtain⟨oa,aj,hc0,hcells⟩:=aG.hist hk;simp only[aB,Cells,and_true]at hc;refine⟨cb,co,k,x,oa,aj,zP,hk,aq,hx,hM,qC hF hk,?_,λj hj=>?_⟩
   ·simp only[Cells,and_true]
    exact⟨y0,y1,y2,y3,y4,y5,y6,by simp[Aeq,aa],hc.2.2.2.2.2.1,hc0⟩
   obtain⟨O,e1,e2,e3⟩:=hcells j _ (lG hj)
   refine⟨_,O,lG hj,e1,?_⟩;have g:=λi x h=>e3 i x h;simp only[Cells,and_true];exact⟨g 0 _ rfl,g 1 _ rfl,g 2 _ rfl,g 3 _ rfl,g 4 _ rfl,g 5 _ rfl,g 6 _ rfl,g 7 _ rfl,g 8 _ rfl,g 9 _ rfl⟩
  obtain⟨N,ak⟩:∃N:Nat->List vL,N=λj=>ints ((Aes j).map (uO B)):=⟨_,rfl⟩;have aN:Hid (N 0=[]):=lH (by rw[ak];rfl);have aR:Hid (∀j,N (j+1)=N j++[.int qi (uO B j)]):=lH λj=>by rw[ak];simp[ints,List.range_succ]
  have aO:Hid (∀u r,u.ownsRow W.heap.size 60 1 r B.C.length (N B.C.length)->wI u (pF B) r):=lH λu r h=>acg (base:=W.heap.size) (by
   have e:(pF B).length=B.C.length:=by simp[pF]
   rw[e];rw[ak]at h;exact h)
  have Y:Hid (Cells W [(⟨b1,5,none⟩,.slice V.ca B.C.length V.cc)]):=lH (by simp only[aB,Cells,and_true]at hc⊢; exact hc.2.2.2.2.2.1);have ai:=lH ag;obtain⟨za,la,ca,pa,zc,lc,cc,pc⟩:=V;rw[ag]at af;have hy:=Y.out;simp only[Cells,and_true]at hy;generalize a9:B.C.length=nT at*;obtain⟨ts,rfl,h5,h4,h1,-⟩:=af.lit;simp only[maF,sqR,qP,f39,Agx,up,Akz,h5,h4,h1];clear hO aa hS af e4 e5 aG hl ag hA ak hc ax az hG
  go_wp2_with fail
  go_loopw [6,24] (λv i wr=>∃j:Nat,j<=nT/\i=.int qi (j:Int)/\Hid (wr.ownsRow W.heap.size 60 1 v j (N j))/\Hid (bX W.heap.size W wr)) (λ_ i _=>nT-(intOf i).toNat)
  case atStart=>exact⟨0,Aih _,rfl,lH (by rw[aN.out];exact Aiz _ _ _ _),lH (bR _ _)⟩
  case round=>
   obtain⟨i,A,rfl,am,Hb⟩:=hrel;obtain⟨wA,a2⟩:∃wA,wA=wr:=⟨wr,rfl⟩;subst a2;by_cases hlt:i<nT
   ·obtain⟨cb,co,k,x,oa,aj,a6,hk,aq,hx,hM,a4,aA,aE⟩:=HX.out i hlt
    subst aq;have aV:=gV Hb.out (nR _) aA;obtain⟨y0,y1,y2,y3,y4,y5,y6,y7,y8,y9,-⟩:=aV;have HM:=lH hM;have aS:=lH aE;have a7:(k:Int)<(B.L.length:Int):=zP
    have l0:=wBk wA _ y0;have l7:=wBk wA _ y7;have l9:=wBk wA _ y9;simp only at l0 l7 l9;have aQ:=lH (aR.out i);clear aE hM hx aA;obtain⟨Z,ae⟩:∃Z:Nat->List Bool,Z=λj=>((B.hs k).take j).map λp=>(p.c i).made:=⟨_,rfl⟩;have aI:Hid (Z 0=[]):=lH (by rw[ae];simp);have aJ:Hid (uO B i=sF (Z (B.hs k).length)/\(Z (B.hs k).length).length=(B.hs k).length):=lH ⟨by rw[HM.out,ae];simp,by rw[ae];simp⟩;have aM:Hid (∀j p,(B.hs k)[j]? =some p->bools (Z (j+1))=bools (Z j)++[.bool (p.c i).made]):=lH λj p hp=>by rw[ae];simp only;rw[Ak5,hp];simp[bools]
    clear ae HM;generalize (B.hs k).length=n at*
    go_wp2_with fail
    have ah:=lH (Hb.out.alloc Hb.out.size (.cells #[.int qi (k:Int),.int qi x.far,.int qi x.a0,.int qi x.a1,.int qi x.c0,.int qi x.c1,.int qi x.made] 62));have au:Hid (bX wA.heap.size wA (wA.alloc (.cells #[.int qi (k:Int),.int qi x.far,.int qi x.a0,.int qi x.a1,.int qi x.c0,.int qi x.c1,.int qi x.made] 62))):=lH ((bR _ _).alloc (nR _) _);generalize wA.alloc (.cells #[.int qi (k:Int),.int qi x.far,.int qi x.a0,.int qi x.a1,.int qi x.c0,.int qi x.c1,.int qi x.made] 62)=W1 at*
    go_loopw [9,36] (λv jj wr=>∃j:Nat,j<=n/\jj=.int qi (j:Int)/\Hid (wr.ownsRow W1.heap.size 4 1 v j (bools (Z j)))/\Hid (bX W1.heap.size W1 wr)) (λ_ jj _=>n-(intOf jj).toNat)
    case atStart=>exact⟨0,Aih _,rfl,lH (by rw[aI.out];exact Aiz _ _ _ _),lH (bR _ _)⟩
    case round=>
     obtain⟨j,hj,rfl,D,I⟩:=hrel;have H:=lH (ah.out.trans (I.out.mono ah.out.size));by_cases aZ:j<n
     ·obtain⟨p,O,hp,rfl,aC⟩:=aS.out j aZ
      have aU:=gV H.out (nR _) aC;obtain⟨g0,g1,g2,g3,g4,g5,g6,g7,g8,g9,-⟩:=aU;have aL:=lH (aM.out j p hp);have gl:=wBk wr _ g0;simp only at gl;have a5:(wr.alloc (.cells #[.int qi p.start,.bool (p.c 0).made,.int qi (p.c 0).ans,.int qi (p.c 0).clr,.bool (p.c 1).made,.int qi (p.c 1).ans,.int qi (p.c 1).clr,.bool (p.c 2).made,.int qi (p.c 2).ans,.int qi (p.c 2).clr] 132)).cell? ⟨wr.heap.size,1+i*3,none⟩=some (.bool (p.c i).made):=by
       obtain rfl|rfl|rfl:i=0\/i=1\/i=2:=zP
       all_goals go_simp
      clear aC hp;have av:=lH ((D.out.alloc (.cells #[.int qi p.start,.bool (p.c 0).made,.int qi (p.c 0).ans,.int qi (p.c 0).clr,.bool (p.c 1).made,.int qi (p.c 1).ans,.int qi (p.c 1).clr,.bool (p.c 2).made,.int qi (p.c 2).ans,.int qi (p.c 2).clr] 132)));have a3:(i:Int)<3:=zP
      go_wp2_with (at_builtin;refine rO rfl _ _ 155 4 rfl (.bool false) 1 1 underlying155 info4 rfl zE W1.heap.size j (bools (Z j)) _ rfl (av.out.alloc _) (wr.heap.size+1) 1 [.bool (p.c i).made] rfl rfl ?c1 ?c2 ?c3 zE ?c4 ?_)
      case c1=>intro ii y A;match ii,A with|0,A=>cases A;go_simp
      case c2=>simp[Ak8]
      case c3=>omega
      case c4=>have:=I.out.size;simp;omega
      intro v' U q s _;have M:Hid (U.ownsRow W1.heap.size 4 1 v' (j+1) (bools (Z (j+1)))):=lH (by rw[aL.out];exact q);have L:Hid (bX W1.heap.size W1 U):=lH (((I.out.alloc I.out.size _).alloc (by have:=I.out.size;simp;omega) _).grown s (by have:=I.out.size;simp;omega) λi A=>(av.out.lt i A).1);clear q s;go_wp2;go_roundw
      case rel=>exact⟨j+1,zP,by go_num,M,L⟩
      case measure=>simp[intOf];omega
     have aF:j=n:=zP
     rw[aF]at D;clear aF;obtain⟨aw,ap⟩:=aJ.out;obtain⟨qa,ar,rfl,an⟩:=acd D.out ap.symm;have G:Hid (∀t,cF tP 111 #[.slice qa n ar,.bool t] wr λe U=>e=rT (.bool ((Z n).contains t))/\wr=U):=lH λt=>by have:=acf t qa (Z n) ar wr an zP;rwa [ap]at this
     have X:=lH (own_below am.out (au.out.trans (I.out.mono au.out.size)));have HM:=lH aw;clear aw ap an D;generalize Z n=Ln at*;have H:=lH (ah.out.trans (I.out.mono ah.out.size));have ac:∀y:Int,sF Ln=y->Hid (N (i+1)=N i++[.int qi y]):=λy hy=>lH (by rw[aQ.out,HM.out,hy])
     cases J:Ln.contains false with
     |false=>
      have Y:=lH J;have ad:=ac 1 (by unfold sF;rw[if_pos J]);clear ac J
      go_wp2_with (first|(go_at_call 111;refine(G.out false).mono ?_;rw[Y.out];rintro e u ⟨rfl,rfl⟩)|(at_builtin;refine rO rfl _ _ 63 60 rfl (.int qi 0) 1 8 underlying63 GV rfl zE W.heap.size i (N i) _ rfl (X.out.alloc _) wr.heap.size 1 [.int qi 1] rfl rfl ?c1 ?c2 ?c3 zE ?c4 ?_))
      case c1=>intro ii y A;match ii,A with|0,A=>cases A;go_simp
      case c2=>simp[Ak8]
      case c3=>omega
      case c4=>have:=H.out.size;simp;omega
      intro v' U q s _;have M:Hid (U.ownsRow W.heap.size 60 1 v' (i+1) (N (i+1))):=lH (by rw[ad.out];exact q);have L:=lH (below_grown H.out X.out (nR _) s);clear q s;go_wp2;go_roundw
      case rel=>exact⟨i+1,zP,by go_num,M,L⟩
      case measure=>simp[intOf];omega
     |true=>
      have Y:=lH J
      cases ab:Ln.contains true with
      |false=>
       have ao:=lH ab;have ad:=ac 2 (by unfold sF;rw[if_neg (by rw[J];decide),if_pos ab]);clear ac J ab
       go_wp2_with (first|(go_at_call_of 111 (Value.slice qa n ar);first|(refine(G.out false).mono ?_;rw[Y.out];rintro e u ⟨rfl,rfl⟩)|(refine(G.out true).mono ?_;rw[ao.out];rintro e u ⟨rfl,rfl⟩))|(at_builtin;refine rO rfl _ _ 63 60 rfl (.int qi 0) 1 8 underlying63 GV rfl zE W.heap.size i (N i) _ rfl (X.out.alloc _) wr.heap.size 1 [.int qi 2] rfl rfl ?c1 ?c2 ?c3 zE ?c4 ?_))
       case c1=>intro ii y A;match ii,A with|0,A=>cases A;go_simp
       case c2=>simp[Ak8]
       case c3=>omega
       case c4=>have:=H.out.size;simp;omega
       intro v' U q s _;have M:Hid (U.ownsRow W.heap.size 60 1 v' (i+1) (N (i+1))):=lH (by rw[ad.out];exact q);have L:=lH (below_grown H.out X.out (nR _) s);clear q s;go_wp2;go_roundw
       case rel=>exact⟨i+1,zP,by go_num,M,L⟩
       case measure=>simp[intOf];omega
      |true=>
       have ao:=lH ab;have ad:=ac 0 (by unfold sF;rw[if_neg (by rw[J];decide),if_neg (by rw[ab];decide)]);clear ac J ab
       go_wp2_with (first|(go_at_call 111;first|(refine(G.out false).mono ?_;rw[Y.out];rintro e u ⟨rfl,rfl⟩)|(refine(G.out true).mono ?_;rw[ao.out];rintro e u ⟨rfl,rfl⟩))|(at_builtin;refine rO rfl _ _ 63 60 rfl (.int qi 0) 1 8 underlying63 GV rfl zE W.heap.size i (N i) _ rfl (X.out.alloc _) wr.heap.size 1 [.int qi 0] rfl rfl ?c1 ?c2 ?c3 zE ?c4 ?_))
       case c1=>intro ii y A;match ii,A with|0,A=>cases A;go_simp
       case c2=>simp[Ak8]
       case c3=>omega
       case c4=>have:=H.out.size;simp;omega
       intro v' U q s _;have M:Hid (U.ownsRow W.heap.size 60 1 v' (i+1) (N (i+1))):=lH (by rw[ad.out];exact q);have L:=lH (below_grown H.out X.out (nR _) s);clear q s;go_wp2;go_roundw
       case rel=>exact⟨i+1,zP,by go_num,M,L⟩
       case measure=>simp[intOf];omega
   have aW:i=nT:=zP
   subst aW;go_wp2
   go_ret2
   exact⟨_,rfl,H0.out.trans (Kp.of_below Hb.out),_,by rw[ai.out];rfl,λe=>absurd ai.out e,λ_=>aO.out _ _ am.out⟩
 have ai:=lH ag
 obtain⟨ts,rfl,h5,h4,h1,-⟩:=af.lit;simp only[maF,sqR,qP,f39,Agx,up,Akz,h5,h4,h1];clear hO aa hS af e4 e5 hc hG;generalize kU B=al at*
 go_wp2_with fail
 go_ret2
 exact⟨_,rfl,H0.out,_,rfl,λ_=>rfl,λe=>absurd e ai.out⟩
def O7(d:GBk w V B):bT tP 39 #[V.val B] w (jJ w (kU B) (pF B)):=by
 refine iU (fn:=f39) (x:=qP) rfl rfl ?_;have e:qP=.seq maA (.seq maE maF):=xD
 rw[e];exact aQ (ach λa1 w1 C q g c1=>aQ (acj d q g c1 λA D p m r s=>acn d p.2.1 p (g.trans m) (m.cells c1) r s λ_ _ h=>h))
end
end Go.Proofs.Y
