/- Part; no conditions. -/
import Derived.Test.YtokgkggocgpcfaaGreatDoorCheap10
open Array renaming getElem?_eq_some_iff->aS,replicate_succ->Ags,replicate_zero->Agt,replicate->Afc
open List renaming append_toArray->Akw,push_toArray->Akx,cons_append->Akn,nil_append->Akp
open Option renaming getD_some->Agx
open Nat renaming lt_of_lt_of_le->nL,reduceSub->Aky,reduceAdd->Akz,le_trans->Agd
open Go.World renaming block_lt_of_cell?->wBk,frozen?->Aem,cell?->Aeq
open Go.Conc renaming base->Aks
open Go renaming Calls->cF,Value->vL,World->wD,bodyPost_ret->Ai8,results->Ak1,undef->ud
open Go.Operand renaming tmp->Ak0
open Go.Act renaming eval->Ahq
open Go.IntKind renaming i64->qi
open Go.Value renaming int->iN,slice->sL,pointer->pN
open Go.Ending renaming returned->rT
open Go.Obj renaming cells->cL
open Go.Lib renaming hid->lH
open Go.Proofs.Tryz renaming prog->tP
open Go.Proofs.Tryz
set_option maxRecDepth 100000
set_option maxHeartbeats 4000000
noncomputable section
set_option linter.all false
namespace Go.Proofs.Y
open Go.RowKit Go.Tp Go.Meter Go.Conc Go.ConcN
variable {w1 u:wD} {a:Act} {k:List Item} {n0:Nat} {ks:List Nat} {v:vL}
def sqL:Code->Code
 |.seq x _=>x
 |c=>c
def sqR:Code->Code
 |.seq _ y=>y
 |c=>c
section
variable {w:wD} {V:BkV} {B:Bk} {there:Bool} {own:Int} {R:vL->wD->Prop}
def jv:Code:=(f81.body).getD .skip
def opA:Code:=sqL jv
def opB:Code:=sqL (sqR jv)
def opC:Code:=sqL (sqR (sqR jv))
def opD:Code:=sqL (sqR (sqR (sqR jv)))
def opE:Code:=sqL (sqR (sqR (sqR (sqR jv))))
def opF:Code:=sqR (sqR (sqR (sqR (sqR jv))))
def own_ne{b3 e:Nat}(h:OB w w1 V B b3 e):e<w1.heap.size:=(aS.1 h.res).1
def aa3(r:GBk w V B)(K:∀g w1,g.defers=[]->SA w V B there own g w1->GLb tP (Aks 81) k R g w1):
 GLb tP (Aks 81) (.code opA::k) R {tmps:=#[V.val B,.bool there,iN qi own]++Afc (f81.ntmps-3) ud,defers:=[]} w:=by
 refine fP (S:=SA w V B there own) ⟨f81,rfl,xD⟩ xN rfl xD xD (λa w1 τ d h=>h.tp) (λτ=>?_) K;obtain⟨W,l⟩:∃W,W=w.tp τ 0 noJ:=⟨_,rfl⟩;have p:Kp w W:=by rw[l];exact Kp.tp_r.2 (.refl _)
 rw[<-l];clear l;obtain⟨za,la,q,pa,zc,lc,cc,pc⟩:=V;simp only[opA,sqL,jv,f81,Agx,Ags,Agt,Akx,Akw,Akp,Akn,Aky];go_wp2;refine⟨W.heap.size,W.heap.size+1,xT,(p.trans (Kp.alloc _ _)).trans (Kp.alloc _ _),?_,?_,?_⟩
 ·simp only[aB,Cells,and_true];go_simp
 ·exact last_at yW
 have:=p.size;omega
def aa4(Z:GBk w V B)(hd:a.defers=[])(hs:SA w V B there own a w1)(hR:∀v D,kQ w V B (aA B there own) v D->R v D)(K:aV B=0->∀y w1,y.defers=[]->SA w V B there own y w1->GLb tP (Aks 81) k R y w1):GLb tP (Aks 81) (.code opB::k) R a w1:=by
 obtain⟨b3,l,hS,p⟩:=hs;refine wC (fn:=f81) (S:=λa w1=>aV B=0/\SA w V B there own a w1) (Q:=kQ w V B (aA B there own)) rfl xD xN hd xD xD (λa w1 τ d h=>⟨h.1,h.2.tp⟩) (λv D τ d h=>kQ.tp.1 h) (λτ=>?_) (λy D O h2=>K h2.1 y D O h2.2) hR;obtain⟨W,U⟩:∃W,W=w1.tp τ 0 noJ:=⟨_,rfl⟩;replace p:OB w W V B b3 l:=by rw[U];exact OB.tp.2 p
 rw[<-U];clear U;have r:=Z.kp p.kp;have s:=lH (c72 V B W r.bk r.var);have q:=lH p;have hc:=p.cells;have X:=own_ne p;have g:=p.res;have E:W.cell? ⟨l,0,none⟩=some (iN qi 0):=by simp[Aeq,g]
 have F:W.cell? ⟨l,1,none⟩=some (iN qi 0):=by simp[Aeq,g]
 have G:W.cell? ⟨l,2,none⟩=some (iN qi 0):=by simp[Aeq,g]
 have H:W.cell? ⟨l,3,none⟩=some (sL none 0 0):=by simp[Aeq,g]
 have I:W.cell? ⟨l,4,none⟩=some (sL none 0 0):=by simp[Aeq,g]
 have J:W.cell? ⟨l,5,none⟩=some (sL none 0 0):=by simp[Aeq,g]
 have L:W.cell? ⟨l,6,none⟩=some (sL none 0 0):=by simp[Aeq,g]
 have M:W.cell? ⟨l,7,none⟩=some (.map none):=by simp[Aeq,g]
 have N:W.cell? ⟨l,8,none⟩=some (sL none 0 0):=by simp[Aeq,g]
 have rf:∀j,W.frozen? ⟨l,j,none⟩=false:=λj=>by simp[Aem,g]
 obtain⟨za,la,ca,pa,zc,lc,cc,pc⟩:=V;obtain⟨q0,q1,q2,q3,q4,q5,q6,-⟩:=hc;obtain⟨t,rfl,h3,h6,O,h2,-⟩:=hS.lit;simp only[opB,sqL,sqR,jv,f81,Agx,up,Akz,h3,h6,O,h2];clear p r Z hS g;by_cases T:aV B=0
 ·have HA:=lH T
  go_wp2_with (go_at_call 72;refine s.out.mono ?_;rw[HA.out];rintro e u ⟨rfl,A⟩;have Hb:=lH A;clear A)
  exact⟨b3,l,xT,q.out.kpr (Kp.of_below Hb.out)⟩
 have Y:Hid (aA B there own=aV B):=lH (by unfold aA;rw[if_pos T])
 go_wp2_with (go_at_call 72;refine s.out.mono ?_;rintro e u ⟨rfl,A⟩;have Hb:=lH A;clear A;have HC:Hid (Cells u [(⟨l,0,none⟩,iN qi 0),(⟨l,1,none⟩,iN qi 0),(⟨l,2,none⟩,iN qi 0),(⟨l,3,none⟩,sL none 0 0),(⟨l,4,none⟩,sL none 0 0),(⟨l,5,none⟩,sL none 0 0),(⟨l,6,none⟩,sL none 0 0),(⟨l,7,none⟩,.map none),(⟨l,8,none⟩,sL none 0 0)]):=lH (gV Hb.out (Nat.le_refl _) (by simp only[Cells,and_true];exact⟨E,F,G,H,I,J,L,M,N⟩));clear E F G H I J L M N;have hC:=HC.out;obtain⟨E,F,G,H,I,J,L,M,N,-⟩:=hC;have aa:∀j,u.frozen? ⟨l,j,none⟩=false:=λj=>by rw[Hb.out.frozen X];exact rf j)
 refine Ai8 (v:=.tuple #[yP,iN qi (aV B)]) (by simp[Ak1,go_sem,E,F,G,H,I,J,L,M,N]) rfl ⟨_,rfl,?_⟩;refine⟨?_,_,by rw[Y.out],λ_=>rfl,λe=>absurd (Y.out.symm.trans e) T⟩
 iterate 9 refine Kp.set ?_ q.out.lo _
 exact q.out.kp.trans (Kp.of_below Hb.out)
def SC(w:wD)(V:BkV)(B:Bk)(there:Bool)(own:Int)(a:Act)(w1:wD):Prop:=∃b3 e g,Sl a 43 ((9,pN (some ⟨g,0,none⟩))::opL there own b3 e)/\OB w w1 V B b3 e/\Cells w1 (aB g V B)
theorem SC.tp{τ:Nat->Question->Nat}{d:Nat}(h:SC w V B there own a (w1.tp τ d noJ)):SC w V B there own a w1:=let ⟨b3,e,g,l,h2,p⟩:=h;⟨b3,e,g,l,OB.tp.1 h2,gX.1 p⟩
def aa5(D:a.defers=[])(E:SA w V B there own a w1)(K:∀l w1,l.defers=[]->SC w V B there own l w1->GLb tP (Aks 81) k R l w1):GLb tP (Aks 81) (.code opC::k) R a w1:=by
 obtain⟨b3,q,r,g⟩:=E;refine fP (S:=SC w V B there own) ⟨f81,rfl,xD⟩ xN D xD xD (λa w1 τ d h=>h.tp) (λτ=>?_) K;obtain⟨W,p⟩:∃W,W=w1.tp τ 0 noJ:=⟨_,rfl⟩;replace g:OB w W V B b3 q:=by rw[p];exact OB.tp.2 g
 rw[<-p];clear p;have hc:=g.cells;have s:=lH g;clear g;obtain⟨za,la,H,pa,zc,lc,cc,pc⟩:=V;obtain⟨G,I,J,L,M,N,O,-⟩:=hc;have F:=wBk W _ G;simp only at F;obtain⟨t,rfl,A,h6,y,h2,-⟩:=r.lit;simp only[opC,sqL,sqR,jv,f81,Agx,up,Akz,A,h6,y,h2];clear r;go_wp2;refine⟨b3,q,W.heap.size,xT,s.out.kpr (Kp.alloc _ _),?_⟩;simp only[aB,Cells,and_true];go_simp
def aa6(hd:a.defers=[])(hs:SC w V B there own a w1)(hA:aV B=0)(hR:∀v G,kQ w V B (aA B there own) v G->R v G)(K:there=true->own=0->∀A w1,A.defers=[]->SC w V B true 0 A w1->GLb tP (Aks 81) k R A w1):GLb tP (Aks 81) (.code opD::k) R a w1:=by
 obtain⟨b3,l,J,r,F,p⟩:=hs;refine wC (fn:=f81) (S:=λa w1=>(there=true/\own=0)/\SC w V B true 0 a w1) (Q:=kQ w V B (aA B there own)) rfl xD xN hd xD xD (λa w1 τ d h=>⟨h.1,h.2.tp⟩) (λv G τ d h=>kQ.tp.1 h) (λτ=>?_) (λA G q h2=>K h2.1.1 h2.1.2 A G q h2.2) hR;obtain⟨W,H⟩:∃W,W=w1.tp τ 0 noJ:=⟨_,rfl⟩;replace F:OB w W V B b3 l:=by rw[H];exact OB.tp.2 F
 replace p:Cells W (aB J V B):=by rw[H];exact gX.2 p
 rw[<-H];clear H;have y:=lH F;have H9:=lH p;have g:=F.res;have L:W.cell? ⟨l,0,none⟩=some (iN qi 0):=by simp[Aeq,g]
 have M:W.cell? ⟨l,1,none⟩=some (iN qi 0):=by simp[Aeq,g]
 have N:W.cell? ⟨l,2,none⟩=some (iN qi 0):=by simp[Aeq,g]
 have O:W.cell? ⟨l,3,none⟩=some (sL none 0 0):=by simp[Aeq,g]
 have T:W.cell? ⟨l,4,none⟩=some (sL none 0 0):=by simp[Aeq,g]
 have U:W.cell? ⟨l,5,none⟩=some (sL none 0 0):=by simp[Aeq,g]
 have X:W.cell? ⟨l,6,none⟩=some (sL none 0 0):=by simp[Aeq,g]
 have Y:W.cell? ⟨l,7,none⟩=some (.map none):=by simp[Aeq,g]
 have Z:W.cell? ⟨l,8,none⟩=some (sL none 0 0):=by simp[Aeq,g]
 have rf:∀j,W.frozen? ⟨l,j,none⟩=false:=λj=>by simp[Aem,g]
 clear F g p
 cases there with
 |false=>
  have s:Hid (aA B false own=6):=lH (by unfold aA;rw[if_neg (by grind),if_pos rfl]);obtain⟨t,rfl,E,D,h6,q,h2,-⟩:=r.lit;simp only[opD,sqL,sqR,jv,f81,Agx,up,Akz,E,D,h6,q,h2];clear r;go_wp2;refine Ai8 (v:=.tuple #[yP,.int qi 6]) (by simp[Ak1,go_sem,L,M,N,O,T,U,X,Y,Z]) rfl ⟨_,rfl,?_⟩;refine⟨?_,_,by rw[s.out],λ_=>rfl,λe=>by rw[s.out]at e;cases e⟩
  iterate 9 refine Kp.set ?_ y.out.lo _
  exact y.out.kp
 |true=>
  by_cases I:own=0
  ·subst I;obtain⟨t,rfl,E,D,h6,q,h2,-⟩:=r.lit;simp only[opD,sqL,sqR,jv,f81,Agx,up,Akz,E,D,h6,q,h2];clear r;go_wp2;exact⟨b3,l,J,xT,y.out,H9.out⟩
  have s:Hid (aA B true own=own):=lH (by unfold aA;rw[if_neg (by grind),if_neg zE,if_pos I]);obtain⟨t,rfl,E,D,h6,q,h2,-⟩:=r.lit;simp only[opD,sqL,sqR,jv,f81,Agx,up,Akz,E,D,h6,q,h2];clear r;go_wp2;refine Ai8 (v:=.tuple #[yP,.int qi own]) (by simp[Ak1,go_sem,L,M,N,O,T,U,X,Y,Z]) rfl ⟨_,rfl,?_⟩;refine⟨?_,_,by rw[s.out],λ_=>rfl,λe=>absurd (s.out.symm.trans e) I⟩
  iterate 9 refine Kp.set ?_ y.out.lo _
  exact y.out.kp
end
section
variable {w:wD} {V:BkV} {B:Bk} {R:vL->wD->Prop}
def bG(n0:Nat)(V:BkV)(B:Bk)(ks:List Nat)(v:vL)(u:wD):Nat->Prop
 |0=>v=V.val B
 |1=>∃e pc,v=sL e ks.length pc/\aF u e (ks.map λi:Nat=>(i:Int))/\aJ u e
 |2=>∃C,v=.tuple #[sL (some ⟨C,0,none⟩) B.L.length B.L.length,.bool (B.can ks)]/\gI n0 u B ks C
 |3=>∃C,v=sL (some ⟨C,0,none⟩) B.L.length B.L.length/\gI n0 u B ks C
 |_=>v=.bool (B.can ks)
theorem bG.kp{u':wD}:∀{i:Nat},bG n0 V B ks v u i->Kp u u'->bG n0 V B ks v u' i
 |0,h,_=>h
 |1,⟨qa,pc,h1,h2,h3⟩,k=>⟨qa,pc,h1,h2.kp k,h3.kp k⟩
 |2,⟨C,h1,h2⟩,k=>⟨C,h1,h2.kp k⟩
 |3,⟨C,h1,h2⟩,k=>⟨C,h1,h2.kp k⟩
 |_+4,h,_=>h
theorem bG.tp{i:Nat}{τ:Nat->Question->Nat}{d:Nat}(h:bG n0 V B ks v (u.tp τ d noJ) i):bG n0 V B ks v u i:=by refine h.kp (Kp.tp_l.2 (.refl _))
def Gq(hn:B.P.length<1000)(τ:Nat->Question->Nat):cF tP 97 #[V.val B] (u.tp τ 0 noJ) λe g=>∃v,e=rT v/\Kp u g/\bG n0 V B B.all v g 1:=by refine(c97 V B (u.tp τ 0 noJ) hn).mono ?_;rintro e g ⟨v,rfl,l,h2⟩;obtain⟨q,pc,rfl,p,h4,_⟩:=yw l yW;refine⟨_,rfl,Kp.below_tp h2,q,pc,by simp[Bk.all],p,h4⟩
def Gs:(∀i∈B.all,i<B.P.length):=by grind [Bk.all]
def Gt(A:GBk u V B)(y:B.Fine)(g:∀i∈ks,i<B.P.length)(e:ks.length<=1000)(hn:n0<=u.heap.size)(D:bG n0 V B ks v u 1):bT tP 96 #[V.val B,v] u λx l=>Kp u l/\bG n0 V B ks x l 2:=by obtain⟨E,pc,rfl,s,h2⟩:=D;exact(Ov A y g e s h2).mono λx l ⟨p,C,q,r⟩=>⟨p,C,q,r.less hn⟩
def rr9:List Nat:=[0,0,1,2,2,3,4,3,4]
def aa7{v6:vL}{s:Nat}(Z:GBk w V B)(L:B.Fine)(hS:Sl a 43 [(9,pN (some ⟨s,0,none⟩)),(6,v6)])(I:Kp w w1)(hc:Cells w1 (aB s V B))(K:∀r q,Sl r 43 [(9,pN (some ⟨s,0,none⟩)),(6,v6)]->Kp w1 q->bG w.heap.size V B B.all (sv r (some 10)) q 3->bG w.heap.size V B B.all (sv r (some 11)) q 4->GLb tP (Aks 81) k R r q):GLb tP (Aks 81) (.code opE::k) R a w1:=by
 have M:(Aks 81).kind≠.early:=by intro e;cases e
 have hp:=L.np;simp only[opE,sqL,sqR,jv,f81,Agx];refine yC rfl hS [[],[],[1],[0,2],[3],[4],[4],[5,3,0,1,2,4],[6,7,0,1,2,3,4,5]] ([some 30,some 31,some 32,some 33,some 29,some 34,some 35,some 10,some 11]:List (Option Nat)) (λi v u=>bG w.heap.size V B B.all v u (rr9.getD i 0)) xD xD (ks:=[9,6]) rfl xD ?_ λr q Y h2 J=>K r q Y h2 (J 7 zE) (J 8 zE);intro f a1 q i rest D g l hi p K;have X:a1.tmps[9]?.getD ud=pN (some ⟨s,0,none⟩):=D.2.2.1;have E:=g.cells hc;obtain⟨N,O,Q,S,T,U,W,-⟩:=E;have A:=Z.kp (I.trans g);have F:=(I.trans g).size
 match i,hi with
 |0,_=>exact kpk (V.val B) (okA rfl) (λτ d=>by simp[go_sem,X,aT,N,O,Q,S,T,U,W]) (rfl) g K
 |1,_=>exact kpk (V.val B) (okA rfl) (λτ d=>by simp[go_sem,X,aT,N,O,Q,S,T,U,W]) (rfl) g K
 |2,_=>
  have v1:a1.tmps[31]?.getD ud=V.val B:=l 1 zE (p 1 zE);refine iW (Ri:=λv u=>bG w.heap.size V B B.all v u 1) (f:=97) (fn:=f97) rfl rfl rfl rfl rfl rfl M rfl (by simp[aU]) (λv u τ d h=>bG.tp h) (λτ=>?_) ((λ_ G _ _ _ _ h=>h.kp G)) g K;have e:#[Ak0 31].map a1.eval=#[V.val B]:=by simp[Ahq,v1]
  rw[e];exact Gq zP τ
 |3,_=>
  have v0:a1.tmps[30]?.getD ud=V.val B:=l 0 zE (p 0 zE);have v2:bG w.heap.size V B B.all (a1.tmps[32]?.getD ud) q 1:=l 2 zE (p 2 zE);refine o8 (Ri:=λv u=>bG w.heap.size V B B.all v u 2) (f:=96) (fn:=f96) rfl rfl rfl rfl rfl rfl M rfl (by simp[aU]) ?_ ((λ_ G _ _ _ _ h=>h.kp G)) g K;have e:#[Ak0 30,.tmp 32].map a1.eval=#[V.val B,a1.tmps[32]?.getD ud]:=by simp[Ahq,v0]
  rw[e];exact Gt A L Gs (by grind [Bk.all]) F v2
 |4,_=>have v3:bG w.heap.size V B B.all (a1.tmps[33]?.getD ud) q 2:=l 3 zE (p 3 zE);exact kpk (a1.tmps[33]?.getD ud) (okA rfl) (λτ d=>by simp[go_sem]) v3 g K
 |5,_=>obtain⟨C,y,H⟩:bG w.heap.size V B B.all (a1.tmps[29]?.getD ud) q 2:=l 4 zE (p 4 zE);exact kpk (sL (some ⟨C,0,none⟩) B.L.length B.L.length) (okA rfl) (λτ d=>by simp[go_sem,y]) ⟨C,rfl,H⟩ g K
 |6,_=>obtain⟨C,y,H⟩:bG w.heap.size V B B.all (a1.tmps[29]?.getD ud) q 2:=l 4 zE (p 4 zE);exact kpk (.bool (B.can B.all)) (okA rfl) (λτ d=>by simp[go_sem,y]) rfl g K
 |7,_=>have v5:bG w.heap.size V B B.all (a1.tmps[34]?.getD ud) q 3:=l 5 zE (p 5 zE);exact kpk (a1.tmps[34]?.getD ud) (okA rfl) (λτ d=>by simp[go_sem]) v5 g K
 |8,_=>have v6:bG w.heap.size V B B.all (a1.tmps[35]?.getD ud) q 4:=l 6 zE (p 6 zE);exact kpk (a1.tmps[35]?.getD ud) (okA rfl) (λτ d=>by simp[go_sem]) v6 g K
def gI.but{u':wD}{C b:Nat}{c:Array vL}{z:Nat×Nat}(h:gI n0 u B ks C)(q:u.heap[b]? =some (cL c 118 z))(r:∀k,k≠b->u'.heap[k]? =u.heap[k]?):gI n0 u' B ks C:=by
 obtain⟨A,J,h2,D,h4⟩:=h;refine⟨A,J,by rw[r C λe=>by rw[e,q]at h2;cases h2];exact h2,D,λj E=>?_⟩;obtain⟨v,y,l⟩:=h4 j E;refine⟨v,y,?_⟩
 rcases l with l|⟨F,s,g,c,G,H,p,I⟩
 ·exact .inl l
 exact .inr ⟨F,s,g,c,G,H,by rw[r s λe=>by rw[e,q]at p;cases p];exact p,I⟩
def aa8{O:wD}{b3 g S C:Nat}(hG:GBk w V B)(hA:aV B=0)(hd:a.defers=[])(U:Sl a 43 [(9,pN (some ⟨S,0,none⟩)),(6,pN (some ⟨g,0,none⟩))])(I:a.tmps[10]?.getD ud=sL (some ⟨C,0,none⟩) B.L.length B.L.length)(J:a.tmps[11]?.getD ud=.bool (B.can B.all))(r:OB w O V B b3 g)(s:Cells O (aB S V B))(T:gI w.heap.size O B B.all C)(hR:∀v w',kQ w V B (aA B true 0) v w'->R v w'):GLb tP (Aks 81) [.code opF] R a O:=by
 refine o7 (fn:=f81) (Q:=kQ w V B (aA B true 0)) rfl xD xN hd xD xD (λv w' τ d h=>kQ.tp.1 h) (λτ=>?_) hR;obtain⟨W,M⟩:∃W,W=O.tp τ 0 noJ:=⟨_,rfl⟩;replace r:OB w W V B b3 g:=by rw[M];exact OB.tp.2 r
 replace s:Cells W (aB S V B):=by rw[M];exact gX.2 s
 replace T:gI w.heap.size W B B.all C:=by rw[M];exact gI.tp.2 T
 rw[<-M];clear M;have E:=lH r;have HL:=lH T;have Hat:=lH hG.bk.at_;have af:=own_ne r;have ag:=r.lo;have ae:=r.kp.size;have A:Hid (cF tP 135 #[V.val B] W λe u=>∃m,e=rT (ctr V B m)/\Hid (W.heap.size<=m)/\Hid (u.heap[m]? =some (.map #[] 0))/\Hid (Below W.heap.size W u)):=lH ((LV V B W).mono λe u ⟨m,h1,h2,h3,h4⟩=>⟨m,h1,lH h2,lH h3,lH h4⟩);have H:=lH r.res;have l:=r.res;have X:W.cell? ⟨g,0,none⟩=some (iN qi 0):=by simp[Aeq,l]
 have Y:W.cell? ⟨g,1,none⟩=some (iN qi 0):=by simp[Aeq,l]
 have Z:W.cell? ⟨g,2,none⟩=some (iN qi 0):=by simp[Aeq,l]
 have r3:W.cell? ⟨g,3,none⟩=some (sL none 0 0):=by simp[Aeq,l]
 have r4:W.cell? ⟨g,4,none⟩=some (sL none 0 0):=by simp[Aeq,l]
 have r5:W.cell? ⟨g,5,none⟩=some (sL none 0 0):=by simp[Aeq,l]
 have r6:W.cell? ⟨g,6,none⟩=some (sL none 0 0):=by simp[Aeq,l]
 have r7:W.cell? ⟨g,7,none⟩=some (.map none):=by simp[Aeq,l]
 have r8:W.cell? ⟨g,8,none⟩=some (sL none 0 0):=by simp[Aeq,l]
 have rf:∀j,W.frozen? ⟨g,j,none⟩=false:=λj=>by simp[Aem,l]
 have hc:=s;have L:Sl a 43 [(10,sL (some ⟨C,0,none⟩) B.L.length B.L.length),(11,.bool (B.can B.all)),(9,pN (some ⟨S,0,none⟩)),(6,pN (some ⟨g,0,none⟩))]:=⟨U.1,U.2.1,I,J,U.2.2⟩;obtain⟨za,la,ca,pa,zc,lc,cc,pc⟩:=V;obtain⟨q0,q1,q2,q3,q4,q5,q6,-⟩:=hc;obtain⟨t,rfl,ab,ac,h9,h6,-⟩:=L.lit;simp only[opF,sqR,jv,f81,Agx,up,Akz,ab,ac,h9,h6];clear r l s U L I J hG T
 cases q:B.can B.all with
 |false=>
  have D:Hid (aA B true 0=10):=lH (by unfold aA;rw[if_neg (by grind),if_neg zE,if_neg zE,if_pos q])
  go_wp2_with fail
  refine Ai8 (v:=.tuple #[yP,iN qi 10]) (by simp[Ak1,go_sem,X,Y,Z,r3,r4,r5,r6,r7,r8]) rfl ⟨_,rfl,?_⟩;refine⟨?_,_,by rw[D.out],λ_=>rfl,λe=>by rw[D.out]at e;cases e⟩
  iterate 9 refine Kp.set ?_ E.out.lo _
  exact E.out.kp
 |true=>
  have D:Hid (aA B true 0=0):=lH (by unfold aA;rw[if_neg (by grind),if_neg zE,if_neg zE,if_neg (by grind)]);have F:=lH q;have HA:=lH hA;clear hA q
  go_wp2_with (go_at_call 135;refine A.out.mono ?_;rintro e u ⟨m,rfl,G,aa,Hb⟩;have p:u.heap[g]? =some (cL #[iN qi 0,iN qi 0,iN qi 0,sL none 0 0,sL none 0 0,sL none 0 0,sL none 0 0,.map none,sL none 0 0] 118 (0,0)):=(by grind [Hb.out.block,H.out]);clear X Y Z r3 r4 r5 r6 r7 r8 rf;have X:u.cell? ⟨g,0,none⟩=some (iN qi 0):=(by grind [Aeq]);have Y:u.cell? ⟨g,1,none⟩=some (iN qi 0):=(by grind [Aeq]);have Z:u.cell? ⟨g,2,none⟩=some (iN qi 0):=(by grind [Aeq]);have r3:u.cell? ⟨g,3,none⟩=some (sL none 0 0):=(by grind [Aeq]);have r4:u.cell? ⟨g,4,none⟩=some (sL none 0 0):=(by grind [Aeq]);have r5:u.cell? ⟨g,5,none⟩=some (sL none 0 0):=(by simp[Aeq,p]);have r6:u.cell? ⟨g,6,none⟩=some (sL none 0 0):=(by simp[Aeq,p]);have r7:u.cell? ⟨g,7,none⟩=some (.map none):=(by simp[Aeq,p]);have r8:u.cell? ⟨g,8,none⟩=some (sL none 0 0):=(by simp[Aeq,p]);have rf:∀j,u.frozen? ⟨g,j,none⟩=false:=(λj=>by simp[Aem,p]);have y:=lH p;clear p)
  refine Ai8 (v:=.tuple #[nM ⟨za,la,ca,pa,zc,lc,cc,pc⟩ B m C,iN qi 0]) (by simp[Ak1,go_sem,X,Y,Z,r3,r4,r5,r6,r7,r8]) rfl ⟨_,rfl,?_⟩;have ad:g≠m:=by have:=G.out;omega
  have N:Kp w u:=E.out.kp.trans (Kp.of_below Hb.out);refine⟨?_,_,by rw[D.out],λe=>absurd D.out e,λ_=>⟨HA.out,F.out,m,C,rfl,?_⟩⟩
  ·iterate 9 refine Kp.set ?_ E.out.lo _
   exact N
  have K:=gI.but (HL.out.kp (Kp.of_below Hb.out)) (u':=(((((((((u.setCell ⟨g,0,none⟩ (iN qi B.day)).setCell ⟨g,1,none⟩ (iN qi B.D)).setCell ⟨g,2,none⟩ (iN qi B.U)).setCell ⟨g,3,none⟩ (sL za B.Z.length zc)).setCell ⟨g,4,none⟩ (sL la B.L.length lc)).setCell ⟨g,5,none⟩ (sL ca B.C.length cc)).setCell ⟨g,6,none⟩ (sL pa B.P.length pc)).setCell ⟨g,7,none⟩ (.map (some m))).setCell ⟨g,8,none⟩ (sL (some ⟨C,0,none⟩) B.L.length B.L.length))) y.out λk hk=>by iterate 9 rw[Below.heap_setCell _ _ _ _ hk]
  refine⟨Hat.out.kp ?_,?_,Agd ae G.out,K.1,K.2⟩
  ·iterate 9 refine Kp.set ?_ E.out.lo _
   exact N
  iterate 9 refine KnP.set ?_ ad _
  exact KnP.of_map aa.out _
def aa9(g:GBk w V B)(there:Bool)(own:Int):bT tP 81 #[V.val B,.bool there,iN qi own] w (kQ w V B (aA B there own)):=by
 refine iU (fn:=f81) (x:=jv) rfl rfl ?_;have e:jv=.seq opA (.seq opB (.seq opC (.seq opD (.seq opE opF)))):=xD
 rw[e];refine aQ (aa3 g λa1 w1 y H=>aQ (aa4 g y H (λ_ _ h=>h) λp L T A I=>aQ (aa5 A I λM U D J=>aQ (aa6 D J p (λ_ _ h=>h) λE F N W S K=>aQ ?_))));subst E F;obtain⟨b3,s,Q,l,r,hc⟩:=K;refine aa7 g (kK p) (v6:=pN (some ⟨s,0,none⟩)) ⟨l.1,l.2.1,l.2.2.1,l.2.2.2.2.1,trivial⟩ r.kp hc λO X q h2 G h4=>?_;obtain⟨C,h5,h6⟩:=G;exact aa8 g p q.2.1 q h5 h4 (r.kpr h2) (h2.cells hc) h6 λ_ _ h=>h
end
end Go.Proofs.Y
namespace Go.Tp
open Go.Conc Go.ConcN Go.RowKit
section
variable {P:Program} [Team P] {b:Frame} {R:vL->wD->Prop} {a:Act} {w:wD} {it k:List Item} {ops:Array Oper} {i:Nat} {rest:List Nat} {o:Oper}
def uH(hm:P.follows .mixedOrders=true){id N:Nat}{dr:Bool}{l:List (Nat×vL)}(hS:Sl a N l)(ds:List (List Nat))(q:List (Option Nat))(Rr:Nat->vL->wD->Prop)(g z:Nat)(F:vL->wD->Prop)(hd:qp ops ds=true)(E:oZ ops.size ds=true){ks:List Nat}(U:l.map (·.1)=ks)(M:dlB ops.size N ks q=true)(aa:g<ops.size)(hz:z<ops.size)(Y:z≠g/\((ds[g]?).getD []).contains z=true)(X:(q[g]?).getD none=none)(I:∀(f:Nat->Bool) (a1:Act) (w1:wD) (i:Nat) (rest:List Nat),i≠g->Sl a1 N l->Kp w w1->(∀j,j<ops.size->j≠g->f j=true->Rr j (sv a1 ((q[j]?).getD none)) w1)->i<ops.size->(∀j∈(ds[i]?).getD [],f j=true)->(f g=true->∀j∈(ds[g]?).getD [],j≠i)->
 (∀v s,Kp w s->((∀j,j<ops.size->j≠g->f j=true->j≠i->Rr j (sv a1 ((q[j]?).getD none)) w1->Rr j (sv a1 ((q[j]?).getD none)) s)/\(f g=true->∀x,F x w1->F x s))->((q[i]?).getD none=none->v=ud)->Rr i v s->GLb P b (.inRegion ops rest::k) R (a1.put ((q[i]?).getD none) v) s)->GLb P b (.inRegion ops (i::rest)::k) R a1 w1)(D:∀(f:Nat->Bool) (a1:Act) (w1:wD) (rest:List Nat),Sl a1 N l->Kp w w1->(∀j,j<ops.size->j≠g->f j=true->Rr j (sv a1 ((q[j]?).getD none)) w1)->(∀j∈(ds[g]?).getD [],f j=true)->
 (∀s,Kp w s->(∀j,j<ops.size->j≠g->f j=true->Rr j (sv a1 ((q[j]?).getD none)) w1->Rr j (sv a1 ((q[j]?).getD none)) s)->F (sv a1 ((q[z]?).getD none)) s->GLb P b (.inRegion ops rest::k) R a1 s)->GLb P b (.inRegion ops (g::rest)::k) R a1 w1)(Z:∀a1 w1,Sl a1 N l->Kp w w1->(∀j,j<ops.size->j≠g->Rr j (sv a1 ((q[j]?).getD none)) w1)->F (sv a1 ((q[z]?).getD none)) w1->GLb P b k R a1 w1):GLb P b (.code (.region id ops dr)::k) R a w:=by
 have L:=FZ M;rw[<-U]at L;have ac:z∈(ds[g]?).getD []:=by simpa using Y.2
 refine BK hm ds hd E (λf a1 w1=>Sl a1 N l/\Kp w w1/\(∀j,j<ops.size->j≠g->f j=true->Rr j (sv a1 ((q[j]?).getD none)) w1)/\(f g=true->(∀j∈(ds[g]?).getD [],j<ops.size/\f j=true)/\F (sv a1 ((q[z]?).getD none)) w1)) ⟨hS,.refl _,(λj _ _ h=>by cases h),(λh=>by cases h)⟩ ?_ ?_ ?_
 ·grind
 ·rintro f a1 w1 i rest ⟨K,h2,O,h4⟩ hi T G hk;by_cases y:i=g
  ·subst y;refine D f a1 w1 rest K h2 O G λs h5 h6 Q=>hk a1 s ⟨K,h5,λj r hn H=>h6 j r hn (by grind) (O j r hn (by grind)),λ_=>⟨λj r=>⟨?_,by simp[G j r]⟩,Q⟩⟩;have hl:=E;unfold oZ at hl
   grind
  refine I f a1 w1 i rest y K h2 O hi G (λH j r e=>by have:=((h4 H).1 j r).2;rw[e,T]at this;cases this) λv s h5 h6 Q S=>hk _ s ?_;have ab:f g=true->z≠i:=by grind
  cases e:(q[i]?).getD none with
  |none=>
   refine⟨K,h5,λj r hn H=>?_,λH=>?_⟩
   ·by_cases J:j=i
    ·subst J;rw[e];rw[Q e]at S;exact S
    exact h6.1 j r hn (by grind) J (O j r hn (by grind))
   have A:f g=true:=by simpa[Ne.symm y]using H
   exact⟨λj r=>⟨((h4 A).1 j r).1,by simp[((h4 A).1 j r).2]⟩,h6.2 A _ (h4 A).2⟩
  |some d=>
   obtain⟨k1,k2,k3⟩:=L i hi d e;have p:=dU a1 (d:=d) v (by rw[K.1];exact k1);have e2:∀j,j<ops.size->j≠i->sv (a1.put (some d) v) ((q[j]?).getD none)=sv a1 ((q[j]?).getD none):=λj r J=>by
    have W:=k3 j r J
    cases e3:(q[j]?).getD none with
    |none=>rfl
    |some d2=>exact p.other d2 λe4=>W (by rw[e3,e4])
   refine⟨K.other p k2,h5,λj r hn H=>?_,λH=>?_⟩
   ·by_cases J:j=i
    ·subst J;rw[e]
     show Rr j ((a1.put (some d) v).tmps[d]?.getD ud) s
     rw[p.same];exact S
    grind
   grind
 grind
end
end Go.Tp
namespace Go.Proofs.Y
open Go.RowKit Go.Tp Go.Meter Go.Conc Go.ConcN
variable {R:vL->wD->Prop} {n t f al:Int} {w1 u w u' w0:wD} {k:List Item} {a:Act} {b4 n1 b8 b n0 d b2 b3 m C:Nat} {v x:vL} {τ:Nat->Question->Nat} {B:Bk} {c:Array vL} {V:BkV}
def Ox(l:Array vL)(h:l.size=9):∃e g p q r s y A D,l=#[e,g,p,q,r,s,y,A,D]:=by
 obtain⟨L⟩:=l
 match L,h with
 |[e,g,p,q,r,s,y,A,D],_=>exact⟨e,g,p,q,r,s,y,A,D,rfl⟩
def iJ{t:TypeId}{z:Nat×Nat}(e:w.heap[b]? =some (cL c t z))(j:Nat)(v:vL):(w.setCell ⟨b,j,none⟩ v).heap[b]? =some (cL (c.setIfInBounds j v) t z):=by simp[World.setCell,Array.getElem?_modify,e]
def abb(h:w.grownBy u (some b))(j:Nat)(v:vL):w.grownBy (u.setCell ⟨b,j,none⟩ v) (some b):=
 ⟨h.os,h.tape,h.output,by rw[World.size_setCell];exact h.size,λk l g=>by rw[Below.heap_setCell _ _ _ _ λe=>g (by rw[e])];exact h.block k l g⟩
section
variable {w:wD} {V:BkV} {B:Bk}
theorem Opened.but{z:Nat×Nat}(h:Opened u V B n0 m C)(g:aI u' V B)(l:u.heap[b]? =some (cL c 118 z))(s:∀k,k≠b->u'.heap[k]? =u.heap[k]?)(q:u.grownBy u' (some b)):Opened u' V B n0 m C:=by have p:=gI.but (ks:=B.all) ⟨h.clow,h.row⟩ l s;obtain⟨A,y,r⟩:=h.kn.isMap;exact⟨g,h.kn.kept q (λe=>by cases e;rw[r]at l;cases l),h.mlow,p.1,p.2⟩
theorem Opened.less(h:Opened u V B n1 m C)(hn:n0<=n1):Opened u V B n0 m C:=by have e:=gI.less (ks:=B.all) ⟨h.clow,h.row⟩ hn;exact⟨h.at_,h.kn,Agd hn h.mlow,e.1,e.2⟩
theorem bQ.less(h:bQ n1 V B al x u)(hn:n0<=n1):bQ n0 V B al x u:=⟨h.1,λe=>let ⟨a,b,m,C,g,l⟩:=h.2 e;⟨a,b,m,C,g,l.less hn⟩⟩
theorem bQ.but{z:Nat×Nat}(h:bQ n0 V B al x u)(g:aI u' V B)(r:u.heap[b]? =some (cL c 118 z))(y:∀k,k≠b->u'.heap[k]? =u.heap[k]?)(s:u.grownBy u' (some b)):bQ n0 V B al x u':=
 ⟨h.1,λe=>let ⟨a,l,m,C,p,q⟩:=h.2 e;⟨a,l,m,C,p,q.but g r y s⟩⟩
theorem bQ.agg(h:bQ n0 V B al x u):∃l:Array vL,x=.agg l/\l.size=9/\∀y∈l,y.oneCell'=true:=by
 by_cases e:al=0
 ·obtain⟨_,_,m,C,g,_⟩:=h.2 e;exact⟨_,g,rfl,by simp[Value.oneCell']⟩
 exact⟨_,h.1 e,rfl,by simp[Value.oneCell']⟩
def aN(n0 n1:Nat)(V:BkV)(B:Bk)(al:Int)(xs:List vL)(v:vL)(u:wD):Nat->Prop
 |0=>∃x,v=.tuple #[x,iN qi al]/\bQ n0 V B al x u
 |1=>bQ n0 V B al v u
 |2=>v=iN qi al
 |3=>∃b c,v=pN (some ⟨b,0,none⟩)/\n1<=b/\u.heap[b]? =some (cL c 118 (0,0))/\c.size=9
 |n+4=>v=xs.getD n ud
def fQ(n0 n1:Nat)(V:BkV)(B:Bk)(al:Int)(x:vL)(u:wD):Prop:=∃b l,x=pN (some ⟨b,0,none⟩)/\n1<=b/\bQ n0 V B al (.agg l) u/\l.size=9/\u.heap[b]? =some (cL l 118 (0,0))
variable {n0 n1:Nat} {al:Int} {xs:List vL}
theorem aN.kp:∀{i:Nat},aN n0 n1 V B al xs v u i->Kp u u'->aN n0 n1 V B al xs v u' i
 |0,⟨x,h1,h2⟩,k=>⟨x,h1,h2.kp k⟩
 |1,h,k=>bQ.kp h k
 |2,h,_=>h
 |3,⟨b,c,h1,h2,h3,h4⟩,k=>⟨b,c,h1,h2,k.obj h3,h4⟩
 |_+4,h,_=>h
theorem aN.tp{i:Nat}(h:aN n0 n1 V B al xs v (u.tp τ d noJ) i):aN n0 n1 V B al xs v u i:=h.kp (Kp.tp_l.2 (.refl _))
theorem aN.but{l:Array vL}{z:Nat×Nat}(g:aI u' V B)(s:u.heap[b]? =some (cL c 118 z))(p:u'.heap[b]? =some (cL l 118 (0,0)))(q:l.size=9)(r:∀k,k≠b->u'.heap[k]? =u.heap[k]?)(y:u.grownBy u' (some b)):∀{i:Nat},aN n0 n1 V B al xs v u i->aN n0 n1 V B al xs v u' i
 |0,⟨x,h1,h2⟩=>⟨x,h1,h2.but g s r y⟩
 |1,h=>bQ.but h g s r y
 |2,h=>h
 |3,⟨b2,c2,h1,h2,h3,h4⟩=>by
  by_cases e:b2=b
  ·subst e;exact⟨b2,l,h1,h2,p,q⟩
  exact⟨b2,c2,h1,h2,by rw[r b2 e];exact h3,h4⟩
 |_+4,h=>h
def uI(p:GBk u V B)(there:Bool)(own:Int)(hn:n0<=u.heap.size):bT tP 81 #[V.val B,.bool there,iN qi own] u λx e=>Kp u e/\aN n0 n1 V B (aA B there own) xs x e 0:=
 (aa9 p there own).mono λ_ _ ⟨g,y,h2,l⟩=>⟨g,y,h2,l.less hn⟩
def uJ{W:Frame}{a1:Act}{ops:Array Oper}{i p q:Nat}{rest:List Nat}{o:Oper}(ho:eU tP ops i o)(Z:o.op=.store 118 (.tmp p) (.tmp q))(X:W.kind≠.early)(D:o.dst=none)(hG:GBk w V B)(h0:Kp w w1)(hp:aN n0 w.heap.size V B al xs (a1.tmps[p]?.getD ud) w1 3)(hq:aN n0 w.heap.size V B al xs (a1.tmps[q]?.getD ud) w1 1)(K:∀s,Kp w s->(∀v i,aN n0 w.heap.size V B al xs v w1 i->aN n0 w.heap.size V B al xs v s i)->fQ n0 w.heap.size V B al (a1.tmps[p]?.getD ud) s->GLb tP W (.inRegion ops rest::k) R a1 s):GLb tP W (.inRegion ops (i::rest)::k) R a1 w1:=by
 obtain⟨b,c,F,G,g,hc⟩:=hp;have H:bQ n0 V B al (a1.tmps[q]?.getD ud) w1:=hq;obtain⟨l,hl,Y,e⟩:=H.agg;obtain⟨I,J,L,M,N,O,Q,S,T,rfl⟩:=Ox l Y;obtain⟨c0,c1,c2,c3,c4,c5,c6,c7,c8,rfl⟩:=Ox c hc;obtain⟨s,r⟩:∃s,s=(((((((((w1.setCell ⟨b,0,none⟩ I).setCell ⟨b,1,none⟩ J).setCell ⟨b,2,none⟩ L).setCell ⟨b,3,none⟩ M).setCell ⟨b,4,none⟩ N).setCell ⟨b,5,none⟩ O).setCell ⟨b,6,none⟩ Q).setCell ⟨b,7,none⟩ S).setCell ⟨b,8,none⟩ T):=⟨_,rfl⟩;have E:Kp w s:=by
  rw[r]
  iterate 9 refine Kp.set ?_ G _
  exact h0
 have hs:∀k,k≠b->s.heap[k]? =w1.heap[k]? :=λk X=>by rw[r];iterate 9 rw[Below.heap_setCell _ _ _ _ X]
 have A:s.heap[b]? =some (cL #[I,J,L,M,N,O,Q,S,T] 118 (0,0)):=by rw[r];refine(iJ (iJ (iJ (iJ (iJ (iJ (iJ (iJ (iJ g 0 I) 1 J) 2 L) 3 M) 4 N) 5 O) 6 Q) 7 S) 8 T).trans ?_;simp only[List.setIfInBounds_toArray,List.set_cons_zero,List.set_cons_succ]
 have hg:w1.grownBy s (some b):=by
  rw[r]
  iterate 9 refine abb ?_ _ _
  exact eF _ _
 have e0:=λa w m=>run_store tP w a I m (e I yW);have e1:=λa w m=>run_store tP w a J m (e J yW);have e2:=λa w m=>run_store tP w a L m (e L yW);have e3:=λa w m=>run_store tP w a M m (e M yW);have e4:=λa w m=>run_store tP w a N m (e N yW);have e5:=λa w m=>run_store tP w a O m (e O yW);have e6:=λa w m=>run_store tP w a Q m (e Q yW);have e7:=λa w m=>run_store tP w a S m (e S yW);have e8:=λa w m=>run_store tP w a T m (e T yW);have r0:w1.cell? ⟨b,0,none⟩=some c0:=by simp[Aeq,g]
 have r1:w1.cell? ⟨b,1,none⟩=some c1:=by simp[Aeq,g]
 have r2:w1.cell? ⟨b,2,none⟩=some c2:=by simp[Aeq,g]
 have r3:w1.cell? ⟨b,3,none⟩=some c3:=by simp[Aeq,g]
 have r4:w1.cell? ⟨b,4,none⟩=some c4:=by simp[Aeq,g]
 have r5:w1.cell? ⟨b,5,none⟩=some c5:=by simp[Aeq,g]
 have r6:w1.cell? ⟨b,6,none⟩=some c6:=by simp[Aeq,g]
 have r7:w1.cell? ⟨b,7,none⟩=some c7:=by simp[Aeq,g]
 have r8:w1.cell? ⟨b,8,none⟩=some c8:=by simp[Aeq,g]
 have rf:∀j,w1.frozen? ⟨b,j,none⟩=false:=λj=>by simp[Aem,g]
 refine oW (w1:=s) ho D X (λτ d=>⟨d,?_⟩) ?_
 ·have s0:∀j,(w1.tp τ d noJ).cell? ⟨b,j,none⟩=w1.cell? ⟨b,j,none⟩:=λj=>aT _ _ _ _;have s1:∀j,(w1.tp τ d noJ).frozen? ⟨b,j,none⟩=false:=λj=>by rw[lI _ _ _ dS];exact rf j
  rw[r]
  iterate 9 rw[<-qy]
  generalize w1.tp τ d noJ=U at*;simp[execOp,Z,go_sem,Ahq,F,hl,s0,s1,e0,e1,e2,e3,e4,e5,e6,e7,e8,r0,r1,r2,r3,r4,r5,r6,r7,r8]
 clear r;have y:=(hG.kp E).bk.at_;exact K s E (λv i h=>h.but y g A rfl hs hg) ⟨b,_,F,G,by rw[<-hl];exact H.but y g hs hg,rfl,A⟩
end
def _root_.Go.Tp.Kp.grownX{W:wD}{p:Option Nat}(h:Kp w W)(g:W.grownBy u p)(q:∀j,p=some j->w.heap.size<=j):Kp w u:=
 ⟨λb l=>(g.block b (nL l h.size) λe=>by have:=q b e.symm;omega).trans (h.block b l),Agd h.size g.size,g.os.trans h.os,g.output.trans h.output⟩
def wI(w:wD)(l:List Int)(v:vL):Prop:=∃e pc,v=sL e l.length pc/\aF w e l/\aJ w e
theorem wI.kp{l:List Int}(h:wI w l v)(k:Kp w u):wI u l v:=let ⟨p,pc,e,h2,g⟩:=h;⟨p,pc,e,h2.kp k,g.kp k⟩
def jJ(w0:wD)(al:Int)(L:List Int)(v:vL)(w:wD):Prop:=Kp w0 w/\∃x,v=.tuple #[x,iN qi al]/\(¬al=0->x=sL none 0 0)/\(al=0->wI w L x)
theorem jJ.tp{L:List Int}(h:jJ w0 al L v (w.tp τ d noJ)):jJ w0 al L v w:=⟨Kp.tp_r.1 h.1,let ⟨x,g,h2,l⟩:=h.2;⟨x,g,h2,λe=>(l e).kp (Kp.tp_l.2 (.refl _))⟩⟩
def uK{l:Array vL}(h:Value.agg l=nM V B m C):l=#[iN qi B.day,iN qi B.D,iN qi B.U,sL V.za B.Z.length V.zc,sL V.la B.L.length V.lc,sL V.ca B.C.length V.cc,sL V.pa B.P.length V.pc,.map (some m),sL (some ⟨C,0,none⟩) B.L.length B.L.length]:=by injection h
def wJ{there:Bool}{own:Int}(h:aA B there own=0):aV B=0/\there=true/\own=0/\B.can B.all=true:=by
 unfold aA at h
 grind
section
variable {w:wD} {V:BkV} {B:Bk}
def qF:Code:=(f46.body).getD .skip
def stA:Code:=sqL qF
def stE:Code:=sqL (sqR qF)
def stF:Code:=sqR (sqR qF)
def abd(K:∀g w1 (b2:Nat),Sl g 24 [(2,pN (some ⟨b2,0,none⟩)),(1,iN qi n)]->Kp w w1->Cells w1 (aB b2 V B)->GLb tP (Aks 46) k R g w1):
 GLb tP (Aks 46) (.code stA::k) R {tmps:=#[V.val B,iN qi n]++Afc (f46.ntmps-2) ud,defers:=[]} w:=by
 refine fP (S:=λa w1=>∃b2:Nat,Sl a 24 [(2,pN (some ⟨b2,0,none⟩)),(1,iN qi n)]/\Kp w w1/\Cells w1 (aB b2 V B)) ⟨f46,rfl,xD⟩ xN rfl xD xD (λa w1 τ d ⟨b2,l,h2,p⟩=>⟨b2,l,Kp.tp_r.1 h2,gX.1 p⟩) (λτ=>?_) λg w1 _ ⟨b2,l,h2,p⟩=>K g w1 b2 l h2 p;obtain⟨W,q⟩:∃W,W=w.tp τ 0 noJ:=⟨_,rfl⟩;have r:Kp w W:=by rw[q];exact Kp.tp_r.2 (.refl _)
 rw[<-q];clear q;obtain⟨za,la,s,pa,zc,lc,cc,pc⟩:=V;simp only[stA,sqL,qF,f46,Agx,Ags,Agt,Akx,Akw,Akp,Akn,Aky];go_wp2;refine⟨W.heap.size,⟨rfl,rfl,rfl,rfl,trivial⟩,?_,?_⟩
 ·iterate 1 refine Kp.trans ?_ (Kp.alloc _ _)
  exact r
 simp only[aB,Cells,and_true];go_simp
def abe:List Nat:=[4,5,6,7,8,0,0,1,2,3,2,2]
def abf(N:GBk w V B)(hS:Sl a 24 [(2,pN (some ⟨b2,0,none⟩)),(1,iN qi n)])(L:Kp w w1)(hc:Cells w1 (aB b2 V B))(K:∀D s,Sl D 24 [(2,pN (some ⟨b2,0,none⟩)),(1,iN qi n)]->Kp w1 s->D.tmps[7]?.getD ud=iN qi (aA B (btw n 0 ((B.L.length:Int)-1)) 0)->fQ w.heap.size w1.heap.size V B (aA B (btw n 0 ((B.L.length:Int)-1)) 0) (D.tmps[6]?.getD ud) s->GLb tP (Aks 46) k R D s):GLb tP (Aks 46) (.code stE::k) R a w1:=by
 have J:(Aks 46).kind≠.early:=by intro e;cases e
 have T:=N.bk.nl;simp only[stE,sqL,sqR,qF,f46,Agx];refine uH rfl hS [[],[],[1],[],[2,3],[0,4],[5],[6],[6],[],[9,7,5,0,1,2,3,4,6],[8,10,0,1,2,3,4,5,6,7,9]] ([some 9,some 10,some 11,some 12,some 13,some 14,some 8,some 15,some 16,some 6,none,some 7]:List (Option Nat)) (λi v u=>aN w.heap.size w1.heap.size V B (aA B (btw n 0 ((B.L.length:Int)-1)) 0) [(V.val B:vL),(V.val B:vL),(V.val B:vL),(iN qi n:vL),(.bool (btw n 0 ((B.L.length:Int)-1)):vL)] v u (abe.getD i 0)) 10 9 (fQ w.heap.size w1.heap.size V B (aA B (btw n 0 ((B.L.length:Int)-1)) 0)) xD xD (ks:=[2,1]) rfl xD zE zE ⟨zE,zE⟩ rfl ?_ ?_ λD s E h2 M h4=>K D s E h2 (M 11 zE zE) h4
 ·intro f a1 s i rest H F g l hi r A K;obtain⟨_,_,s2,s1,_⟩:=F;have Q:=g.cells hc;obtain⟨Z,q1,q2,q3,q4,q5,q6,-⟩:=Q;have O:=N.kp (L.trans g);have S:=(L.trans g).size
  match i,hi with
  |0,_=>exact kpk (V.val B) (okA rfl) (λτ d=>by simp[go_sem,aT,s2,Z,q1,q2,q3,q4,q5,q6]) rfl g K
  |1,_=>exact kpk (V.val B) (okA rfl) (λτ d=>by simp[go_sem,aT,s2,Z,q1,q2,q3,q4,q5,q6]) rfl g K
  |2,_=>have U:a1.tmps[10]?.getD ud=V.val B:=l 1 zE zE (r 1 zE);exact kpk (V.val B) (okA rfl) (λτ d=>by simp[go_sem,U]) rfl g K
  |3,_=>exact kpk (iN qi n) (okA rfl) (λτ d=>by simp[go_sem,s1]) rfl g K
  |4,_=>
   have v2:a1.tmps[11]?.getD ud=V.val B:=l 2 zE zE (r 2 zE);have W:a1.tmps[12]?.getD ud=iN qi n:=l 3 zE zE (r 3 zE);refine iW (Ri:=λv _=>v=.bool (btw n 0 ((B.L.length:Int)-1))) (f:=82) (fn:=f82) rfl rfl rfl rfl rfl rfl J rfl xD (λ_ _ _ _ h=>h) (λτ=>?_) (λu I=>⟨λj _ _ _ _ h=>h.kp I,λG=>absurd rfl (A G 4 zE)⟩) g K;have e:(#[Ak0 11,.tmp 12]:Array Operand).map a1.eval=#[V.val B,iN qi n]:=by simp[Ahq,v2,W]
   rw[e];exact(c82 V B n (s.tp τ 0 noJ) T).mono λe w' ⟨E,h2⟩=>⟨_,E,Kp.below_tp h2,rfl⟩
  |5,_=>
   have v0:a1.tmps[9]?.getD ud=V.val B:=l 0 zE zE (r 0 zE);have v4:a1.tmps[13]?.getD ud=.bool (btw n 0 ((B.L.length:Int)-1)):=l 4 zE zE (r 4 zE);refine o8 (Ri:=λv u=>aN w.heap.size w1.heap.size V B (aA B (btw n 0 ((B.L.length:Int)-1)) 0) [(V.val B:vL),(V.val B:vL),(V.val B:vL),(iN qi n:vL),(.bool (btw n 0 ((B.L.length:Int)-1)):vL)] v u 0) (f:=81) (fn:=f81) rfl rfl rfl rfl rfl rfl J rfl xD ?_ (λu I=>⟨λj _ _ _ _ h=>h.kp I,λG=>absurd rfl (A G 5 zE)⟩) g K;have e:(#[Ak0 9,.tmp 13,.const (iN qi 0)]:Array Operand).map a1.eval=#[V.val B,.bool (btw n 0 ((B.L.length:Int)-1)),iN qi 0]:=by simp[Ahq,v0,v4]
   rw[e];exact uI O _ _ S
  |6,_=>have v5:aN w.heap.size w1.heap.size V B (aA B (btw n 0 ((B.L.length:Int)-1)) 0) [] (a1.tmps[14]?.getD ud) s 0:=l 5 zE zE (r 5 zE);exact kpk (a1.tmps[14]?.getD ud) (okA rfl) (λτ d=>by simp[go_sem]) v5 g K
  |7,_=>have X:aN w.heap.size w1.heap.size V B (aA B (btw n 0 ((B.L.length:Int)-1)) 0) [] (a1.tmps[8]?.getD ud) s 0:=l 6 zE zE (r 6 zE);obtain⟨y,y1,y2⟩:=X;exact kpk y (okA rfl) (λτ d=>by simp[go_sem,y1]) y2 g K
  |8,_=>have X:aN w.heap.size w1.heap.size V B (aA B (btw n 0 ((B.L.length:Int)-1)) 0) [] (a1.tmps[8]?.getD ud) s 0:=l 6 zE zE (r 6 zE);obtain⟨y,y1,y2⟩:=X;exact kpk (iN qi (aA B (btw n 0 ((B.L.length:Int)-1)) 0)) (okA rfl) (λτ d=>by simp[go_sem,y1]) rfl g K
  |9,_=>
   refine rV (pN (some ⟨s.heap.size,0,none⟩)) (cL #[iN qi 0,iN qi 0,iN qi 0,sL none 0 0,sL none 0 0,sL none 0 0,sL none 0 0,.map none,sL none 0 0] 118) (okA rfl) J rfl (λτ d=>?_) (λu I=>⟨λj _ _ _ _ h=>h.kp I,λG=>absurd rfl (A G 9 zE)⟩) g ⟨s.heap.size,_,rfl,g.size,last_at rfl,rfl⟩ K λe=>by cases e
   simp[go_sem];rw[aP]
  |11,_=>have Y:aN w.heap.size w1.heap.size V B (aA B (btw n 0 ((B.L.length:Int)-1)) 0) [] (a1.tmps[16]?.getD ud) s 2:=l 8 zE zE (r 8 zE);replace Y:a1.tmps[16]?.getD ud=iN qi (aA B (btw n 0 ((B.L.length:Int)-1)) 0):=Y;exact kpk (iN qi (aA B (btw n 0 ((B.L.length:Int)-1)) 0)) (okA rfl) (λτ d=>by simp[go_sem,Y]) rfl g K
  |10,_=>exact absurd rfl H
 intro f a1 s rest F g l r K;have W:aN w.heap.size w1.heap.size V B (aA B (btw n 0 ((B.L.length:Int)-1)) 0) [(V.val B:vL),(V.val B:vL),(V.val B:vL),(iN qi n:vL),(.bool (btw n 0 ((B.L.length:Int)-1)):vL)] (a1.tmps[6]?.getD ud) s 3:=l 9 zE zE (r 9 zE);have U:aN w.heap.size w1.heap.size V B (aA B (btw n 0 ((B.L.length:Int)-1)) 0) [(V.val B:vL),(V.val B:vL),(V.val B:vL),(iN qi n:vL),(.bool (btw n 0 ((B.L.length:Int)-1)):vL)] (a1.tmps[15]?.getD ud) s 1:=l 7 zE zE (r 7 zE);refine uJ (p:=6) (q:=15) (okA rfl) rfl J rfl (N.kp L) g W U λw3 E h2 M=>K w3 E (λj _ _ _ h=>h2 _ _ h) M
def rY(B:Bk)(k:Nat):List Int:=dN ((B.hs k).map (·.start))
def nN(B:Bk)(n:Int):Int:=aA B (btw n 0 ((B.L.length:Int)-1)) 0
def abg(hd:a.defers=[])(G:Sl a 24 [(2,pN (some ⟨b2,0,none⟩)),(1,iN qi n)])(M:Kp w w1)(Z:a.tmps[7]?.getD ud=iN qi (nN B n))(aa:fQ w.heap.size n1 V B (nN B n) (a.tmps[6]?.getD ud) w1)(hR:∀v w',jJ w (nN B n) (rY B n.toNat) v w'->R v w'):GLb tP (Aks 46) [.code stF] R a w1:=by
 refine o7 (fn:=f46) (Q:=jJ w (nN B n) (rY B n.toNat)) rfl xD xN hd xD xD (λv w' τ d h=>jJ.tp h) (λτ=>?_) hR;obtain⟨W,H⟩:∃W,W=w1.tp τ 0 noJ:=⟨_,rfl⟩;obtain⟨X,l,Y,_,F,af,q⟩:=aa;replace M:Kp w W:=by rw[H];exact Kp.tp_r.2 M
 replace F:bQ w.heap.size V B (nN B n) (.agg l) W:=by rw[H];exact bQ.tp.2 F
 replace q:W.heap[X]? =some (cL l 118 (0,0)):=by rw[H,aP];exact q
 rw[<-H];clear H;have s:Sl a 24 [(7,iN qi (nN B n)),(6,pN (some ⟨X,0,none⟩)),(1,iN qi n)]:=⟨G.1,G.2.1,Z,Y,G.2.2.2.1,trivial⟩;by_cases g:nN B n=0
 ·obtain⟨hA,_,m,C,hl,E⟩:=F.2 g;have I:=(wJ g).2.1;have ac:=bJ I;have hF:=kK hA;obtain⟨k,rfl⟩:∃k:Nat,n=(k:Int):=⟨n.toNat,zP⟩;have hk:k<B.L.length:=zP
  have D:=E.mlow;rw[uK hl]at q;have S:Hid (cF tP 92 #[nM V B m C,iN qi (k:Int),.func (.func 119) #[] #[]] W λe u=>∃r,e=rT r/\Hid (u.ownsRow W.heap.size 3 1 r ((B.hs k).map (·.start)).length (ints ((B.hs k).map (·.start))))/\Hid (W.grownBy u (some m))):=lH (by
   refine(c92 V B hF w.heap.size m C k hk 119 #[] (·.start) W E (cf func119 rfl rfl) λu p A h2 hp=>?_).mono ?_
   ·exact(c119 p u).mono λe u' ⟨N,h4⟩=>⟨N,h2.kept (grown_of h4 none) yW,grown_of h4 _⟩
   rintro e u ⟨r,A,h2,N,h4⟩;exact⟨r,A,lH (by grind),lH h4⟩)
  have ab:(B.hs k).length<=3000:=qC hF hk;have O:Hid (∀u r,u.ownsRow W.heap.size 3 1 r ((B.hs k).map (·.start)).length (ints ((B.hs k).map (·.start)))->cF tP 91 #[r] u λe u'=>∃J,e=rT J/\Hid (u'.ownsRow W.heap.size 3 1 J (rY B k).length (ints (rY B k)))/\Hid (u.grownBy u' r.ownBlock)):=lH λu r h=>(c91 _ _ r u h (by simpa using Agd ab zP)).mono λe u' ⟨J,A,h2,N⟩=>⟨J,A,lH h2,lH N⟩;have y:=lH g;have K:=lH M;obtain⟨za,la,ca,pa,zc,lc,cc,pc⟩:=V;have ad:Cells W (cu X ⟨za,la,ca,pa,zc,lc,cc,pc⟩ B m C):=by simp only[cu,Cells,and_true];simp[Aeq,q]
  obtain⟨q0,q1,q2,q3,q4,q5,q6,q7,q8,-⟩:=ad;rw[g]at s;obtain⟨t,rfl,h7,h6,A,-⟩:=s.lit;simp only[stF,sqR,qF,f46,Agx,up,Akz,h7,h6,A];clear F q G s Y Z E hl g I ac hA;generalize (B.hs k).map (·.start)=L at*
  go_wp2_with (first|(go_at_call 92;refine S.out.mono ?_;rintro e u ⟨r,rfl,Ho,Hg⟩)|(go_at_call 91;refine(O.out _ _ Ho.out).mono ?_;rintro e u2 ⟨J,rfl,U,T⟩))
  go_ret2
  obtain⟨qa,ae,hv,hn,hq,_⟩:=yw U.out rfl;refine⟨_,rfl,(K.out.grownX Hg.out λj e=>by cases e;exact D).grownX T.out λj e=>Agd K.out.size (Ho.out.lt j e).1,_,by rw[y.out];rfl,λe=>absurd y.out e,λ_=>⟨qa,ae,hv,hn,hq⟩⟩
 have y:=lH g;have K:=lH M;obtain⟨t,rfl,h7,h6,A,-⟩:=s.lit;simp only[stF,sqR,qF,f46,Agx,up,Akz,h7,h6,A];clear F q G s Y Z;generalize nN B n=al at*
 go_wp2_with fail
 go_ret2
 exact⟨_,rfl,K.out,_,rfl,λ_=>rfl,λe=>absurd e y.out⟩
def abh(p:GBk w V B)(n:Int):bT tP 46 #[V.val B,iN qi n] w (jJ w (nN B n) (rY B n.toNat)):=by
 refine iU (fn:=f46) (x:=qF) rfl rfl ?_;have e:qF=.seq stA (.seq stE stF):=xD
 rw[e];exact aQ (abd λa1 w1 b2 r g c1=>aQ (abf p r g c1 λA D l q s y=>abg l.2.1 l (g.trans q) s y λ_ _ h=>h))
end
section
variable {w:wD} {V:BkV} {B:Bk}
def qG:Code:=(f34.body).getD .skip
def shA:Code:=sqL qG
def shE:Code:=sqL (sqR qG)
def shF:Code:=sqR (sqR qG)
def eX(t:Int):Int:=if btw t 0 200 then 0 else 1
def abj(h:eX t=0):0<=t/\t<=200:=by
 unfold eX at h
 cases e:btw t 0 200 with
 |false=>rw[e]at h;cases h
 |true=>exact bJ e
def abk(K:∀l w1 (b3 b4 g:Nat),Sl l 30 [(3,pN (some ⟨b3,0,none⟩)),(4,pN (some ⟨b4,0,none⟩)),(5,pN (some ⟨g,0,none⟩))]->Kp w w1->Cells w1 (aB b3 V B++[(⟨b4,0,none⟩,iN qi n),(⟨g,0,none⟩,iN qi t)])->GLb tP (Aks 34) k R l w1):
 GLb tP (Aks 34) (.code shA::k) R {tmps:=#[V.val B,iN qi n,iN qi t]++Afc (f34.ntmps-3) ud,defers:=[]} w:=by
 refine fP (S:=λa w1=>∃b3 b4 g:Nat,Sl a 30 [(3,pN (some ⟨b3,0,none⟩)),(4,pN (some ⟨b4,0,none⟩)),(5,pN (some ⟨g,0,none⟩))]/\Kp w w1/\Cells w1 (aB b3 V B++[(⟨b4,0,none⟩,iN qi n),(⟨g,0,none⟩,iN qi t)])) ⟨f34,rfl,xD⟩ xN rfl xD xD (λa w1 τ d ⟨b3,b4,g,p,h2,q⟩=>⟨b3,b4,g,p,Kp.tp_r.1 h2,gX.1 q⟩) (λτ=>?_) λl w1 _ ⟨b3,b4,g,p,h2,q⟩=>K l w1 b3 b4 g p h2 q;obtain⟨W,r⟩:∃W,W=w.tp τ 0 noJ:=⟨_,rfl⟩;have s:Kp w W:=by rw[r];exact Kp.tp_r.2 (.refl _)
 rw[<-r];clear r;obtain⟨za,la,y,pa,zc,lc,cc,pc⟩:=V;simp only[shA,sqL,qG,f34,Agx,Ags,Agt,Akx,Akw,Akp,Akn,Aky];go_wp2;refine⟨W.heap.size,W.heap.size+1,W.heap.size+1+1,xT,?_,?_⟩
 ·iterate 3 refine Kp.trans ?_ (Kp.alloc _ _)
  exact s
 simp only[aB,Akn,Akp,Cells,and_true];go_simp
def abl:List Nat:=[4,5,6,7,8,9,10,11,0,0,1,2,3,2,2]
def abm{N:Nat}(S:GBk w V B)(hS:Sl a 30 [(3,pN (some ⟨b3,0,none⟩)),(4,pN (some ⟨b4,0,none⟩)),(5,pN (some ⟨N,0,none⟩))])(O:Kp w w1)(hc:Cells w1 (aB b3 V B++[(⟨b4,0,none⟩,iN qi n),(⟨N,0,none⟩,iN qi t)]))(K:∀H s,Sl H 30 [(3,pN (some ⟨b3,0,none⟩)),(4,pN (some ⟨b4,0,none⟩)),(5,pN (some ⟨N,0,none⟩))]->Kp w1 s->H.tmps[9]?.getD ud=iN qi (aA B (btw n 0 ((B.L.length:Int)-1)) (eX t))->fQ w.heap.size w1.heap.size V B (aA B (btw n 0 ((B.L.length:Int)-1)) (eX t)) (H.tmps[8]?.getD ud) s->GLb tP (Aks 34) k R H s):GLb tP (Aks 34) (.code shE::k) R a w1:=by
 have I:(Aks 34).kind≠.early:=by intro e;cases e
 have W:=S.bk.nl;simp only[shE,sqL,sqR,qG,f34,Agx];refine uH rfl hS [[],[],[1],[],[2,3],[],[5,4],[6],[0,4,7],[8],[9],[9],[],[12,10,8,0,1,2,3,4,5,6,7,9],[11,13,0,1,2,3,4,5,6,7,8,9,10,12]] ([some 11,some 12,some 13,some 14,some 15,some 16,some 17,some 18,some 19,some 10,some 20,some 21,some 8,none,some 9]:List (Option Nat)) (λi v u=>aN w.heap.size w1.heap.size V B (aA B (btw n 0 ((B.L.length:Int)-1)) (eX t)) [(V.val B:vL),(V.val B:vL),(V.val B:vL),(iN qi n:vL),(.bool (btw n 0 ((B.L.length:Int)-1)):vL),(iN qi t:vL),(.bool (btw t 0 200):vL),(iN qi (eX t):vL)] v u (abl.getD i 0)) 13 12 (fQ w.heap.size w1.heap.size V B (aA B (btw n 0 ((B.L.length:Int)-1)) (eX t))) xD xD (ks:=[3,4,5]) rfl xD zE zE ⟨zE,zE⟩ rfl ?_ ?_ λH s D h2 Q h4=>K H s D h2 (Q 14 zE zE) h4
 ·intro f a1 s i rest M J g l hi r A K;obtain⟨_,_,s3,s4,s5,_⟩:=J;have L:=g.cells hc;simp only[aB,Akn,Akp,Cells,and_true]at L;obtain⟨q0,q1,q2,q3,q4,q5,q6,q7,q8⟩:=L;have T:=S.kp (O.trans g);have U:=(O.trans g).size
  match i,hi with
  |0,_=>exact kpk (V.val B) (okA rfl) (λτ d=>by simp[go_sem,aT,s3,q0,q1,q2,q3,q4,q5,q6]) rfl g K
  |1,_=>exact kpk (V.val B) (okA rfl) (λτ d=>by simp[go_sem,aT,s3,q0,q1,q2,q3,q4,q5,q6]) rfl g K
  |2,_=>have X:a1.tmps[12]?.getD ud=V.val B:=l 1 zE zE (r 1 zE);exact kpk (V.val B) (okA rfl) (λτ d=>by simp[go_sem,X]) rfl g K
  |3,_=>exact kpk (iN qi n) (okA rfl) (λτ d=>by simp[go_sem,aT,s4,q7]) rfl g K
  |4,_=>
   have v2:a1.tmps[13]?.getD ud=V.val B:=l 2 zE zE (r 2 zE);have Y:a1.tmps[14]?.getD ud=iN qi n:=l 3 zE zE (r 3 zE);refine iW (Ri:=λv _=>v=.bool (btw n 0 ((B.L.length:Int)-1))) (f:=82) (fn:=f82) rfl rfl rfl rfl rfl rfl I rfl xD (λ_ _ _ _ h=>h) (λτ=>?_) (λu F=>⟨λj _ _ _ _ h=>h.kp F,λE=>absurd rfl (A E 4 zE)⟩) g K;have e:(#[Ak0 13,.tmp 14]:Array Operand).map a1.eval=#[V.val B,iN qi n]:=by simp[Ahq,v2,Y]
   rw[e];exact(c82 V B n (s.tp τ 0 noJ) W).mono λe w' ⟨D,h2⟩=>⟨_,D,Kp.below_tp h2,rfl⟩
  |5,_=>exact kpk (iN qi t) (okA rfl) (λτ d=>by simp[go_sem,aT,s5,q8]) rfl g K
  |6,_=>
   have v5:a1.tmps[16]?.getD ud=iN qi t:=l 5 zE zE (r 5 zE);refine iW (Ri:=λv _=>v=.bool (btw t 0 200)) (f:=109) (fn:=f109) rfl rfl rfl rfl rfl rfl I rfl xD (λ_ _ _ _ h=>h) (λτ=>?_) (λu F=>⟨λj _ _ _ _ h=>h.kp F,λE=>absurd rfl (A E 6 zE)⟩) g K;have e:(#[Ak0 16]:Array Operand).map a1.eval=#[iN qi t]:=by simp[Ahq,v5]
   rw[e];exact(c109 t (s.tp τ 0 noJ)).mono λe w' ⟨D,h2⟩=>⟨_,D,by rw[<-h2];exact Kp.tp_r.2 (.refl _),rfl⟩
  |7,_=>
   have v6:a1.tmps[17]?.getD ud=.bool (btw t 0 200):=l 6 zE zE (r 6 zE);refine iW (Ri:=λv _=>v=iN qi (eX t)) (f:=79) (fn:=f79) rfl rfl rfl rfl rfl rfl I rfl xD (λ_ _ _ _ h=>h) (λτ=>?_) (λu F=>⟨λj _ _ _ _ h=>h.kp F,λE=>absurd rfl (A E 7 zE)⟩) g K;have e:(#[Ak0 17]:Array Operand).map a1.eval=#[.bool (btw t 0 200)]:=by simp[Ahq,v6]
   rw[e];exact(c79 (btw t 0 200) (s.tp τ 0 noJ)).mono λe w' ⟨D,h2⟩=>⟨_,D,by rw[<-h2];exact Kp.tp_r.2 (.refl _),rfl⟩
  |8,_=>
   have v0:a1.tmps[11]?.getD ud=V.val B:=l 0 zE zE (r 0 zE);have v4:a1.tmps[15]?.getD ud=.bool (btw n 0 ((B.L.length:Int)-1)):=l 4 zE zE (r 4 zE);have v7:a1.tmps[18]?.getD ud=iN qi (eX t):=l 7 zE zE (r 7 zE);refine o8 (Ri:=λv u=>aN w.heap.size w1.heap.size V B (aA B (btw n 0 ((B.L.length:Int)-1)) (eX t)) [(V.val B:vL),(V.val B:vL),(V.val B:vL),(iN qi n:vL),(.bool (btw n 0 ((B.L.length:Int)-1)):vL),(iN qi t:vL),(.bool (btw t 0 200):vL),(iN qi (eX t):vL)] v u 0) (f:=81) (fn:=f81) rfl rfl rfl rfl rfl rfl I rfl xD ?_ (λu F=>⟨λj _ _ _ _ h=>h.kp F,λE=>absurd rfl (A E 8 zE)⟩) g K;have e:(#[Ak0 11,.tmp 15,.tmp 18]:Array Operand).map a1.eval=#[V.val B,.bool (btw n 0 ((B.L.length:Int)-1)),iN qi (eX t)]:=by simp[Ahq,v0,v4,v7]
   rw[e];exact uI T _ _ U
  |9,_=>have v8:aN w.heap.size w1.heap.size V B (aA B (btw n 0 ((B.L.length:Int)-1)) (eX t)) [] (a1.tmps[19]?.getD ud) s 0:=l 8 zE zE (r 8 zE);exact kpk (a1.tmps[19]?.getD ud) (okA rfl) (λτ d=>by simp[go_sem]) v8 g K
  |10,_=>have Z:aN w.heap.size w1.heap.size V B (aA B (btw n 0 ((B.L.length:Int)-1)) (eX t)) [] (a1.tmps[10]?.getD ud) s 0:=l 9 zE zE (r 9 zE);obtain⟨y,y1,y2⟩:=Z;exact kpk y (okA rfl) (λτ d=>by simp[go_sem,y1]) y2 g K
  |11,_=>have Z:aN w.heap.size w1.heap.size V B (aA B (btw n 0 ((B.L.length:Int)-1)) (eX t)) [] (a1.tmps[10]?.getD ud) s 0:=l 9 zE zE (r 9 zE);obtain⟨y,y1,y2⟩:=Z;exact kpk (iN qi (aA B (btw n 0 ((B.L.length:Int)-1)) (eX t))) (okA rfl) (λτ d=>by simp[go_sem,y1]) rfl g K
  |12,_=>
   refine rV (pN (some ⟨s.heap.size,0,none⟩)) (cL #[iN qi 0,iN qi 0,iN qi 0,sL none 0 0,sL none 0 0,sL none 0 0,sL none 0 0,.map none,sL none 0 0] 118) (okA rfl) I rfl (λτ d=>?_) (λu F=>⟨λj _ _ _ _ h=>h.kp F,λE=>absurd rfl (A E 12 zE)⟩) g ⟨s.heap.size,_,rfl,g.size,last_at rfl,rfl⟩ K λe=>by cases e
   simp[go_sem];rw[aP]
  |14,_=>have G:aN w.heap.size w1.heap.size V B (aA B (btw n 0 ((B.L.length:Int)-1)) (eX t)) [] (a1.tmps[21]?.getD ud) s 2:=l 11 zE zE (r 11 zE);replace G:a1.tmps[21]?.getD ud=iN qi (aA B (btw n 0 ((B.L.length:Int)-1)) (eX t)):=G;exact kpk (iN qi (aA B (btw n 0 ((B.L.length:Int)-1)) (eX t))) (okA rfl) (λτ d=>by simp[go_sem,G]) rfl g K
  |13,_=>exact absurd rfl M
 intro f a1 s rest J g l r K;have Y:aN w.heap.size w1.heap.size V B (aA B (btw n 0 ((B.L.length:Int)-1)) (eX t)) [(V.val B:vL),(V.val B:vL),(V.val B:vL),(iN qi n:vL),(.bool (btw n 0 ((B.L.length:Int)-1)):vL),(iN qi t:vL),(.bool (btw t 0 200):vL),(iN qi (eX t):vL)] (a1.tmps[8]?.getD ud) s 3:=l 12 zE zE (r 12 zE);have X:aN w.heap.size w1.heap.size V B (aA B (btw n 0 ((B.L.length:Int)-1)) (eX t)) [(V.val B:vL),(V.val B:vL),(V.val B:vL),(iN qi n:vL),(.bool (btw n 0 ((B.L.length:Int)-1)):vL),(iN qi t:vL),(.bool (btw t 0 200):vL),(iN qi (eX t):vL)] (a1.tmps[20]?.getD ud) s 1:=l 10 zE zE (r 10 zE);refine uJ (p:=8) (q:=20) (okA rfl) rfl I rfl (S.kp O) g Y X λw3 D h2 Q=>K w3 D (λj _ _ _ h=>h2 _ _ h) Q
def nO(B:Bk)(k:Nat)(t:Int):List Int:=dN ((B.hs k).map λp=>B.shows (k:Int) p t)
def kR(B:Bk)(n t:Int):Int:=aA B (btw n 0 ((B.L.length:Int)-1)) (eX t)
def abn{D:Nat}(hd:a.defers=[])(J:Sl a 30 [(3,pN (some ⟨b3,0,none⟩)),(4,pN (some ⟨b4,0,none⟩)),(5,pN (some ⟨D,0,none⟩))])(S:Kp w w1)(hc:Cells w1 [(⟨b4,0,none⟩,iN qi n),(⟨D,0,none⟩,iN qi t)])(e9:a.tmps[9]?.getD ud=iN qi (kR B n t))(ab:fQ w.heap.size n1 V B (kR B n t) (a.tmps[8]?.getD ud) w1)(hR:∀v w',jJ w (kR B n t) (nO B n.toNat t) v w'->R v w'):GLb tP (Aks 34) [.code shF] R a w1:=by
 refine o7 (fn:=f34) (Q:=jJ w (kR B n t) (nO B n.toNat t)) rfl xD xN hd xD xD (λv w' τ d h=>jJ.tp h) (λτ=>?_) hR;obtain⟨W,H⟩:∃W,W=w1.tp τ 0 noJ:=⟨_,rfl⟩;obtain⟨b8,l,e8,_,I,af,g⟩:=ab;replace S:Kp w W:=by rw[H];exact Kp.tp_r.2 S
 replace hc:Cells W [(⟨b4,0,none⟩,iN qi n),(⟨D,0,none⟩,iN qi t)]:=by rw[H];exact gX.2 hc
 replace I:bQ w.heap.size V B (kR B n t) (.agg l) W:=by rw[H];exact bQ.tp.2 I
 replace g:W.heap[b8]? =some (cL l 118 (0,0)):=by rw[H,aP];exact g
 rw[<-H];clear H;have y:Sl a 30 [(9,iN qi (kR B n t)),(8,pN (some ⟨b8,0,none⟩)),(4,pN (some ⟨b4,0,none⟩)),(5,pN (some ⟨D,0,none⟩))]:=⟨J.1,J.2.1,e9,e8,J.2.2.2⟩;by_cases q:kR B n t=0
 ·obtain⟨hA,_,m,C,hl,s⟩:=I.2 q;obtain⟨_,K,M,_⟩:=wJ q;have ad:=bJ K;have ht:=abj M;have T:=kK hA;obtain⟨k,rfl⟩:∃k:Nat,n=(k:Int):=⟨n.toNat,zP⟩;have U:k<B.L.length:=zP
  have F:=s.mlow;rw[uK hl]at g;have E:Cells W (cu b8 V B m C++[(⟨b4,0,none⟩,iN qi (k:Int)),(⟨D,0,none⟩,iN qi t)]):=by simp only[cu,Akn,Akp,Cells,and_true]at hc⊢;obtain⟨y1,y2⟩:=hc;exact⟨by simp[Aeq,g],by simp[Aeq,g],by simp[Aeq,g],by simp[Aeq,g],by simp[Aeq,g],by simp[Aeq,g],by simp[Aeq,g],by simp[Aeq,g],by simp[Aeq,g],y1,y2⟩
  have Y:Hid (cF tP 92 #[nM V B m C,iN qi (k:Int),.func (.func 110) #[] #[pN (some ⟨b8,0,none⟩),pN (some ⟨b4,0,none⟩),pN (some ⟨D,0,none⟩)]] W λe u=>∃r,e=rT r/\Hid (u.ownsRow W.heap.size 3 1 r ((B.hs k).map λp=>B.shows (k:Int) p t).length (ints ((B.hs k).map λp=>B.shows (k:Int) p t)))/\Hid (W.grownBy u (some m))):=lH (by
   refine(c92 V B T w.heap.size m C k U 110 _ (λp=>B.shows (k:Int) p t) W s (cf func110 rfl rfl) λu p G h2 hp=>?_).mono ?_
   ·exact Z4 V B T m C k b8 b4 D t p u (s.at_.grown G s.kn.isMap) h2 (E.grown G λj e=>by cases e;exact s.kn.isMap) (BQ T U p hp) U ht.2
   rintro e u ⟨r,G,h2,h3,h4⟩;exact⟨r,G,lH (by grind),lH h4⟩)
  have ac:(B.hs k).length<=3000:=qC T U;have X:Hid (∀u r,u.ownsRow W.heap.size 3 1 r ((B.hs k).map λp=>B.shows (k:Int) p t).length (ints ((B.hs k).map λp=>B.shows (k:Int) p t))->cF tP 91 #[r] u λe u'=>∃N,e=rT N/\Hid (u'.ownsRow W.heap.size 3 1 N (nO B k t).length (ints (nO B k t)))/\Hid (u.grownBy u' r.ownBlock)):=lH λu r h=>(c91 _ _ r u h (by simpa using Agd ac zP)).mono λe u' ⟨N,G,h2,h3⟩=>⟨N,G,lH h2,lH h3⟩;have A:=lH q;have O:=lH S;obtain⟨za,la,ca,pa,zc,lc,cc,pc⟩:=V;simp only[cu,Akn,Akp,Cells,and_true]at E;obtain⟨q0,q1,q2,q3,q4,q5,q6,q7,q8,y1,y2⟩:=E;rw[q]at y;obtain⟨ts,rfl,h9,h8,h4,h5,-⟩:=y.lit;simp only[shF,sqR,qG,f34,Agx,up,Akz,h9,h8,h4,h5];clear I g J y e8 e9 s hl q K ad hA M hc;generalize ((B.hs k).map λp=>B.shows (k:Int) p t)=L at*
  go_wp2_with (first|(go_at_call 92;refine Y.out.mono ?_;rintro e u ⟨r,rfl,Ho,Hg⟩)|(go_at_call 91;refine(X.out _ _ Ho.out).mono ?_;rintro e u2 ⟨N,rfl,aa,Z⟩))
  go_ret2
  obtain⟨qa,ae,hv,hn,hq,_⟩:=yw aa.out rfl;refine⟨_,rfl,(O.out.grownX Hg.out λj e=>by cases e;exact F).grownX Z.out λj e=>Agd O.out.size (Ho.out.lt j e).1,_,by rw[A.out];rfl,λe=>absurd A.out e,λ_=>⟨qa,ae,hv,hn,hq⟩⟩
 have A:=lH q;have O:=lH S;obtain⟨ts,rfl,h9,h8,h4,h5,-⟩:=y.lit;simp only[shF,sqR,qG,f34,Agx,up,Akz,h9,h8,h4,h5];clear I g J y e8 e9 hc;generalize kR B n t=al at*
 go_wp2_with fail
 go_ret2
 exact⟨_,rfl,O.out,_,rfl,λ_=>rfl,λe=>absurd e A.out⟩
def Oy(q:GBk w V B)(n t:Int):bT tP 34 #[V.val B,iN qi n,iN qi t] w (jJ w (kR B n t) (nO B n.toNat t)):=by
 refine iU (fn:=f34) (x:=qG) rfl rfl ?_;have e:qG=.seq shA (.seq shE shF):=xD
 rw[e];refine aQ (abk (n:=n) (t:=t) λa1 w1 b3 b4 D r g c1=>aQ (abm q r g c1 λA E p l s y=>abn p.2.1 p (g.trans l) ?_ s y λ_ _ h=>h));have:=l.cells c1;simp only[aB,Akn,Akp,Cells,and_true]at this⊢
 grind
end
def nP(w0:wD)(al:Int)(E:Int×Int)(v:vL)(w:wD):Prop:=Kp w0 w/\v=.tuple #[.agg (if al=0 then #[iN qi E.1,iN qi E.2]else #[iN qi 0,iN qi 0]),iN qi al]
theorem nP.tp{E:Int×Int}(h:nP w0 al E v (w.tp τ d noJ)):nP w0 al E v w:=⟨Kp.tp_r.1 h.1,h.2⟩
section
variable {w:wD} {V:BkV} {B:Bk}
def jK:Code:=(f19.body).getD .skip
def owA:Code:=sqL jK
def owB:Code:=sqL (sqR jK)
def owC:Code:=sqL (sqR (sqR jK))
def owE:Code:=sqL (sqR (sqR (sqR jK)))
def owF:Code:=sqR (sqR (sqR (sqR jK)))
def bU(f t:Int):Int:=if eP [f,t]=false then 1 else if t<f then 7 else 0
def abo(h:bU f t=0):(0<=f/\f<=200)/\(0<=t/\t<=200)/\f<=t:=by
 unfold bU at h
 split at h
 ·cases h
 split at h
 ·cases h
 rename_i g h2;have g:eP [f,t]=true:=by cases e:eP [f,t]<;>simp_all
 simp only[eP,List.all_cons,List.all_nil,Bool.and_true,Bool.and_eq_true]at g;exact⟨bJ g.1,bJ g.2,zP⟩
structure WB (w w1:wD) (V:BkV) (B:Bk) (b4 b8:Nat):Prop where
 kp:Kp w w1
 cells:Cells w1 (aB b4 V B)
 res:w1.heap[b8]? =some (cL #[iN qi 0,iN qi 0] 32 (0,0))
 lo:w.heap.size<=b8
def WB.kpr{e:wD}(h:WB w w1 V B b4 b8)(k:Kp w1 e):WB w e V B b4 b8:=⟨h.kp.trans k,k.cells h.cells,k.obj h.res,h.lo⟩
theorem WB.tp:WB w (w1.tp τ d noJ) V B b4 b8↔WB w w1 V B b4 b8:=⟨λh=>h.kpr (Kp.tp_l.2 (.refl _)),λh=>h.kpr (Kp.tp_r.2 (.refl _))⟩
def owL(n f t:Int)(b4 b8:Nat):List (Nat×vL):=[(4,pN (some ⟨b4,0,none⟩)),(8,pN (some ⟨b8,0,none⟩)),(1,iN qi n),(2,iN qi f),(3,iN qi t)]
def abp(K:∀g w1 b4 b8,Sl g 44 (owL n f t b4 b8)->WB w w1 V B b4 b8->GLb tP (Aks 19) k R g w1):
 GLb tP (Aks 19) (.code owA::k) R {tmps:=#[V.val B,iN qi n,iN qi f,iN qi t]++Afc (f19.ntmps-4) ud,defers:=[]} w:=by
 refine fP (S:=λa w1=>∃b4 b8,Sl a 44 (owL n f t b4 b8)/\WB w w1 V B b4 b8) ⟨f19,rfl,xD⟩ xN rfl xD xD (λa w1 τ d ⟨b4,b8,l,h2⟩=>⟨b4,b8,l,WB.tp.1 h2⟩) (λτ=>?_) λg w1 _ ⟨b4,b8,l,h2⟩=>K g w1 b4 b8 l h2;obtain⟨W,p⟩:∃W,W=w.tp τ 0 noJ:=⟨_,rfl⟩;have q:Kp w W:=by rw[p];exact Kp.tp_r.2 (.refl _)
 rw[<-p];clear p;obtain⟨za,la,r,pa,zc,lc,cc,pc⟩:=V;simp only[owA,sqL,jK,f19,Agx,Ags,Agt,Akx,Akw,Akp,Akn,Aky];go_wp2;refine⟨W.heap.size,W.heap.size+1,xT,(q.trans (Kp.alloc _ _)).trans (Kp.alloc _ _),?_,last_at yW,by have:=q.size;omega⟩;simp only[aB,Cells,and_true];go_simp
def abq(y:Sl a 44 (owL n f t b4 b8))(q:WB w w1 V B b4 b8)(K:∀p w1,Sl p 44 ((10,iN qi (if eP [f,t]then 0 else 1))::owL n f t b4 b8)->WB w w1 V B b4 b8->GLb tP (Aks 19) k R p w1):
 GLb tP (Aks 19) (.code owB::k) R a w1:=by
 refine fP (S:=λa w1=>Sl a 44 ((10,iN qi (if eP [f,t]then 0 else 1))::owL n f t b4 b8)/\WB w w1 V B b4 b8) ⟨f19,rfl,xD⟩ xN y.2.1 xD xD (λa w1 τ d ⟨g,h2⟩=>⟨g,WB.tp.1 h2⟩) (λτ=>?_) λp w1 _ ⟨g,h2⟩=>K p w1 g h2;obtain⟨W,A⟩:∃W,W=w1.tp τ 0 noJ:=⟨_,rfl⟩;replace q:WB w W V B b4 b8:=by rw[A];exact WB.tp.2 q
 rw[<-A];clear A;have E:=lH q;clear q;have s:Hid (cF tP 80 #[sL (some ⟨W.heap.size,0,none⟩) 2 2] (W.alloc (cL #[iN qi f,iN qi t] 3)) λF u'=>F=rT (.bool (eP [f,t]))/\Below (W.alloc (cL #[iN qi f,iN qi t] 3)).heap.size (W.alloc (cL #[iN qi f,iN qi t] 3)) u'):=lH (c80 [f,t] _ 2 2 _ rfl (λi n l=>by
  match i,l with
  |0,l=>cases l;exact⟨W.heap.size,0,rfl,by go_simp⟩
  |1,l=>cases l;exact⟨W.heap.size,0,rfl,by go_simp⟩) yW)
 have r:=lH (c79 (eP [f,t]));obtain⟨I,rfl,h4,H,g,h2,G,-⟩:=y.lit;simp only[owB,sqL,sqR,jK,f19,Agx,up,Akz,h4,H,g,h2,G];clear y;generalize eP [f,t]=T at*
 go_wp2_with (first|(go_at_call 80;refine s.out.mono ?_;rintro e u ⟨rfl,D⟩;have Hb:=lH D;clear D)|(go_at_call 79;refine(r.out _).mono ?_;rintro e u2 ⟨rfl,rfl⟩))
 all_goals exact⟨xT,E.out.kpr ((Kp.alloc _ _).trans (Kp.of_below Hb.out))⟩
def abr(p:Sl a 44 ((10,iN qi (if eP [f,t]then 0 else 1))::owL n f t b4 b8))(E:WB w w1 V B b4 b8)(K:∀D w1,Sl D 44 ((10,iN qi (bU f t))::owL n f t b4 b8)->WB w w1 V B b4 b8->GLb tP (Aks 19) k R D w1):
 GLb tP (Aks 19) (.code owC::k) R a w1:=by
 refine fP (S:=λa w1=>Sl a 44 ((10,iN qi (bU f t))::owL n f t b4 b8)/\WB w w1 V B b4 b8) ⟨f19,rfl,xD⟩ xN p.2.1 xD xD (λa w1 τ d ⟨l,h2⟩=>⟨l,WB.tp.1 h2⟩) (λτ=>?_) λD w1 _ ⟨l,h2⟩=>K D w1 l h2;obtain⟨W,G⟩:∃W,W=w1.tp τ 0 noJ:=⟨_,rfl⟩;replace E:WB w W V B b4 b8:=by rw[G];exact WB.tp.2 E
 rw[<-G];clear G;have F:=lH E;clear E
 cases q:eP [f,t]with
 |false=>have r:Hid (bU f t=1):=lH (by unfold bU;rw[if_pos q]);rw[q]at p;obtain⟨H,rfl,g,h4,y,l,h2,s,-⟩:=p.lit;simp only[Bool.false_eq_true,if_false]at g;simp only[owC,sqL,sqR,jK,f19,Agx,up,Akz,g,h4,y,l,h2,s];clear p q;go_wp2;exact⟨⟨rfl,rfl,by rw[r.out];rfl,rfl,rfl,rfl,rfl,rfl,trivial⟩,F.out⟩
 |true=>
  rw[q]at p;by_cases A:f>t
  ·have r:Hid (bU f t=7):=lH (by unfold bU;rw[if_neg (by grind),if_pos A]);obtain⟨H,rfl,g,h4,y,l,h2,s,-⟩:=p.lit;simp only[if_true]at g;simp only[owC,sqL,sqR,jK,f19,Agx,up,Akz,g,h4,y,l,h2,s];clear p q;go_wp2;exact⟨⟨rfl,rfl,by rw[r.out];rfl,rfl,rfl,rfl,rfl,rfl,trivial⟩,F.out⟩
  have r:Hid (bU f t=0):=lH (by unfold bU;rw[if_neg (by grind),if_neg A]);obtain⟨H,rfl,g,h4,y,l,h2,s,-⟩:=p.lit;simp only[if_true]at g;simp only[owC,sqL,sqR,jK,f19,Agx,up,Akz,g,h4,y,l,h2,s];clear p q;go_wp2;exact⟨⟨rfl,rfl,by rw[r.out];rfl,rfl,rfl,rfl,rfl,rfl,trivial⟩,F.out⟩
def abt:List Nat:=[4,5,6,7,8,9,0,0,1,2,3,2,2]
def abu(N:GBk w V B)(hS:Sl a 44 [(10,iN qi (bU f t)),(4,pN (some ⟨b4,0,none⟩)),(8,pN (some ⟨b8,0,none⟩)),(1,iN qi n),(2,iN qi f),(3,iN qi t)])(L:Kp w w1)(hc:Cells w1 (aB b4 V B))(K:∀D s,Sl D 44 [(10,iN qi (bU f t)),(4,pN (some ⟨b4,0,none⟩)),(8,pN (some ⟨b8,0,none⟩)),(1,iN qi n),(2,iN qi f),(3,iN qi t)]->Kp w1 s->D.tmps[12]?.getD ud=iN qi (aA B (btw n 0 ((B.L.length:Int)-1)) (bU f t))->fQ w.heap.size w1.heap.size V B (aA B (btw n 0 ((B.L.length:Int)-1)) (bU f t)) (D.tmps[11]?.getD ud) s->GLb tP (Aks 19) k R D s):GLb tP (Aks 19) (.code owE::k) R a w1:=by
 have J:(Aks 19).kind≠.early:=by intro e;cases e
 have T:=N.bk.nl;simp only[owE,sqL,sqR,jK,f19,Agx];refine uH rfl hS [[],[],[1],[],[2,3],[],[0,4,5],[6],[7],[7],[],[10,8,6,0,1,2,3,4,5,7],[9,11,0,1,2,3,4,5,6,7,8,10]] ([some 26,some 27,some 28,some 29,some 30,some 31,some 32,some 25,some 33,some 34,some 11,none,some 12]:List (Option Nat)) (λi v u=>aN w.heap.size w1.heap.size V B (aA B (btw n 0 ((B.L.length:Int)-1)) (bU f t)) [(V.val B:vL),(V.val B:vL),(V.val B:vL),(iN qi n:vL),(.bool (btw n 0 ((B.L.length:Int)-1)):vL),(iN qi (bU f t):vL)] v u (abt.getD i 0)) 11 10 (fQ w.heap.size w1.heap.size V B (aA B (btw n 0 ((B.L.length:Int)-1)) (bU f t))) xD xD (ks:=[10,4,8,1,2,3]) rfl xD zE zE ⟨zE,zE⟩ rfl ?_ ?_ λD s E h2 M h4=>K D s E h2 (M 12 zE zE) h4
 ·intro fd a1 s i rest H F g l hi r A K;obtain⟨_,_,U,s4,s8,s1,s2,s3,_⟩:=F;have Q:=g.cells hc;obtain⟨q0,q1,q2,q3,q4,q5,q6,-⟩:=Q;have O:=N.kp (L.trans g);have S:=(L.trans g).size
  match i,hi with
  |0,_=>exact kpk (V.val B) (okA rfl) (λτ d=>by simp[go_sem,aT,s4,q0,q1,q2,q3,q4,q5,q6]) rfl g K
  |1,_=>exact kpk (V.val B) (okA rfl) (λτ d=>by simp[go_sem,aT,s4,q0,q1,q2,q3,q4,q5,q6]) rfl g K
  |2,_=>have W:a1.tmps[27]?.getD ud=V.val B:=l 1 zE zE (r 1 zE);exact kpk (V.val B) (okA rfl) (λτ d=>by simp[go_sem,W]) rfl g K
  |3,_=>exact kpk (iN qi n) (okA rfl) (λτ d=>by simp[go_sem,s1]) rfl g K
  |4,_=>
   have v2:a1.tmps[28]?.getD ud=V.val B:=l 2 zE zE (r 2 zE);have X:a1.tmps[29]?.getD ud=iN qi n:=l 3 zE zE (r 3 zE);refine iW (Ri:=λv _=>v=.bool (btw n 0 ((B.L.length:Int)-1))) (f:=82) (fn:=f82) rfl rfl rfl rfl rfl rfl J rfl xD (λ_ _ _ _ h=>h) (λτ=>?_) (λu I=>⟨λj _ _ _ _ h=>h.kp I,λG=>absurd rfl (A G 4 zE)⟩) g K;have e:(#[Ak0 28,.tmp 29]:Array Operand).map a1.eval=#[V.val B,iN qi n]:=by simp[Ahq,v2,X]
   rw[e];exact(c82 V B n (s.tp τ 0 noJ) T).mono λe w' ⟨E,h2⟩=>⟨_,E,Kp.below_tp h2,rfl⟩
  |5,_=>exact kpk (iN qi (bU f t)) (okA rfl) (λτ d=>by simp[go_sem,U]) rfl g K
  |6,_=>
   have v0:a1.tmps[26]?.getD ud=V.val B:=l 0 zE zE (r 0 zE);have v4:a1.tmps[30]?.getD ud=.bool (btw n 0 ((B.L.length:Int)-1)):=l 4 zE zE (r 4 zE);have v5:a1.tmps[31]?.getD ud=iN qi (bU f t):=l 5 zE zE (r 5 zE);refine o8 (Ri:=λv u=>aN w.heap.size w1.heap.size V B (aA B (btw n 0 ((B.L.length:Int)-1)) (bU f t)) [(V.val B:vL),(V.val B:vL),(V.val B:vL),(iN qi n:vL),(.bool (btw n 0 ((B.L.length:Int)-1)):vL),(iN qi (bU f t):vL)] v u 0) (f:=81) (fn:=f81) rfl rfl rfl rfl rfl rfl J rfl xD ?_ (λu I=>⟨λj _ _ _ _ h=>h.kp I,λG=>absurd rfl (A G 6 zE)⟩) g K;have e:(#[Ak0 26,.tmp 30,.tmp 31]:Array Operand).map a1.eval=#[V.val B,.bool (btw n 0 ((B.L.length:Int)-1)),iN qi (bU f t)]:=by simp[Ahq,v0,v4,v5]
   rw[e];exact uI O _ _ S
  |7,_=>have v6:aN w.heap.size w1.heap.size V B (aA B (btw n 0 ((B.L.length:Int)-1)) (bU f t)) [] (a1.tmps[32]?.getD ud) s 0:=l 6 zE zE (r 6 zE);exact kpk (a1.tmps[32]?.getD ud) (okA rfl) (λτ d=>by simp[go_sem]) v6 g K
  |8,_=>have Y:aN w.heap.size w1.heap.size V B (aA B (btw n 0 ((B.L.length:Int)-1)) (bU f t)) [] (a1.tmps[25]?.getD ud) s 0:=l 7 zE zE (r 7 zE);obtain⟨y,y1,y2⟩:=Y;exact kpk y (okA rfl) (λτ d=>by simp[go_sem,y1]) y2 g K
  |9,_=>have Y:aN w.heap.size w1.heap.size V B (aA B (btw n 0 ((B.L.length:Int)-1)) (bU f t)) [] (a1.tmps[25]?.getD ud) s 0:=l 7 zE zE (r 7 zE);obtain⟨y,y1,y2⟩:=Y;exact kpk (iN qi (aA B (btw n 0 ((B.L.length:Int)-1)) (bU f t))) (okA rfl) (λτ d=>by simp[go_sem,y1]) rfl g K
  |10,_=>
   refine rV (pN (some ⟨s.heap.size,0,none⟩)) (cL #[iN qi 0,iN qi 0,iN qi 0,sL none 0 0,sL none 0 0,sL none 0 0,sL none 0 0,.map none,sL none 0 0] 118) (okA rfl) J rfl (λτ d=>?_) (λu I=>⟨λj _ _ _ _ h=>h.kp I,λG=>absurd rfl (A G 10 zE)⟩) g ⟨s.heap.size,_,rfl,g.size,last_at rfl,rfl⟩ K λe=>by cases e
   simp[go_sem];rw[aP]
  |12,_=>have Z:aN w.heap.size w1.heap.size V B (aA B (btw n 0 ((B.L.length:Int)-1)) (bU f t)) [] (a1.tmps[34]?.getD ud) s 2:=l 9 zE zE (r 9 zE);replace Z:a1.tmps[34]?.getD ud=iN qi (aA B (btw n 0 ((B.L.length:Int)-1)) (bU f t)):=Z;exact kpk (iN qi (aA B (btw n 0 ((B.L.length:Int)-1)) (bU f t))) (okA rfl) (λτ d=>by simp[go_sem,Z]) rfl g K
  |11,_=>exact absurd rfl H
 intro fd a1 s rest F g l r K;have X:aN w.heap.size w1.heap.size V B (aA B (btw n 0 ((B.L.length:Int)-1)) (bU f t)) [(V.val B:vL),(V.val B:vL),(V.val B:vL),(iN qi n:vL),(.bool (btw n 0 ((B.L.length:Int)-1)):vL),(iN qi (bU f t):vL)] (a1.tmps[11]?.getD ud) s 3:=l 10 zE zE (r 10 zE);have W:aN w.heap.size w1.heap.size V B (aA B (btw n 0 ((B.L.length:Int)-1)) (bU f t)) [(V.val B:vL),(V.val B:vL),(V.val B:vL),(iN qi n:vL),(.bool (btw n 0 ((B.L.length:Int)-1)):vL),(iN qi (bU f t):vL)] (a1.tmps[33]?.getD ud) s 1:=l 8 zE zE (r 8 zE);refine uJ (p:=11) (q:=33) (okA rfl) rfl J rfl (N.kp L) g X W λw3 E h2 M=>K w3 E (λj _ _ _ h=>h2 _ _ h) M
def iY(B:Bk)(k:Nat)(f t:Int):Int×Int:=jU ((B.hs k).map λp=>B.count p t-B.count p f)
def nS(B:Bk)(n f t:Int):Int:=aA B (btw n 0 ((B.L.length:Int)-1)) (bU f t)
def Gu{k:Nat}(h:B.can B.all=true)(e:k<B.L.length):B.hs k≠[]:=of_decide_eq_true h k e
def abv(hd:a.defers=[])(U:Sl a 44 ((10,iN qi (bU f t))::owL n f t b4 b8))(p:WB w w1 V B b4 b8)(I:a.tmps[12]?.getD ud=iN qi (nS B n f t))(ab:fQ w.heap.size n1 V B (nS B n f t) (a.tmps[11]?.getD ud) w1)(hR:∀v w',nP w (nS B n f t) (iY B n.toNat f t) v w'->R v w'):GLb tP (Aks 19) [.code owF] R a w1:=by
 refine o7 (fn:=f19) (Q:=nP w (nS B n f t) (iY B n.toNat f t)) rfl xD xN hd xD xD (λv w' τ d h=>nP.tp h) (λτ=>?_) hR;obtain⟨W,X⟩:∃W,W=w1.tp τ 0 noJ:=⟨_,rfl⟩;obtain⟨G,l,H,_,T,af,r⟩:=ab;replace p:WB w W V B b4 b8:=by rw[X];exact WB.tp.2 p
 replace T:bQ w.heap.size V B (nS B n f t) (.agg l) W:=by rw[X];exact bQ.tp.2 T
 replace r:W.heap[G]? =some (cL l 118 (0,0)):=by rw[X,aP];exact r
 rw[<-X];clear X;have g:=p.res;have ae:=(aS.1 g).1;have s:Sl a 44 [(12,iN qi (nS B n f t)),(11,pN (some ⟨G,0,none⟩)),(8,pN (some ⟨b8,0,none⟩)),(1,iN qi n),(2,iN qi f),(3,iN qi t)]:=⟨U.1,U.2.1,I,H,U.2.2.2.2⟩;have r0:W.cell? ⟨b8,0,none⟩=some (iN qi 0):=by simp[Aeq,g]
 have r1:W.cell? ⟨b8,1,none⟩=some (iN qi 0):=by simp[Aeq,g]
 have rf:∀j,W.frozen? ⟨b8,j,none⟩=false:=λj=>by simp[Aem,g]
 have M:=lH p;by_cases q:nS B n f t=0
 ·obtain⟨hA,D,m,C,hl,A⟩:=T.2 q;obtain⟨_,Y,Z,_⟩:=wJ q;have ac:=bJ Y;have ht:=abo Z;have hF:=kK hA;obtain⟨k,rfl⟩:∃k:Nat,n=(k:Int):=⟨n.toNat,zP⟩;have hk:k<B.L.length:=zP
  have L:=A.mlow;have ag:b8≠m:=λe=>by
   obtain⟨es,c,hm⟩:=A.kn.isMap
   grind
  have hE:iY B ((k:Int)).toNat f t=iY B k f t:=rfl;rw[hE];clear hE;rw[uK hl]at r;have ad:Cells W (cu G V B m C):=by simp only[cu,Cells,and_true];simp[Aeq,r]
  have aa:Hid (cF tP 83 #[nM V B m C,.int qi (k:Int),.int qi f,.int qi t] W λe u=>e=rT (.agg #[.int qi (iY B k f t).1,.int qi (iY B k f t).2])/\Hid (W.grownBy u (some m))):=lH ((c83 V B hF w.heap.size m C k f t W A hk (Gu D hk) ht.2.1.2 ht.1.2).mono λe u ⟨O,_,S⟩=>⟨O,lH S⟩);have F:=lH q;obtain⟨za,la,ca,pa,zc,lc,cc,pc⟩:=V;obtain⟨q0,q1,q2,q3,q4,q5,q6,q7,q8,-⟩:=ad;rw[q]at s;have N:=lH g;obtain⟨ts,rfl,K,J,h8,O,h2,S,-⟩:=s.lit;simp only[owF,sqR,jK,f19,Agx,up,Akz,K,J,h8,O,h2,S];clear T r U s H I A hl q Y ac hA Z p g D;generalize iY B k f t=E at*;obtain⟨x0,x1⟩:=E
  go_wp2_with (go_at_call 83;refine aa.out.mono ?_;rintro e u ⟨rfl,Hg⟩;have y:u.heap[b8]? =some (cL #[iN qi 0,iN qi 0] 32 (0,0)):=(by grind [Hg.out.block,N.out]);clear r0 r1 rf;have r0:u.cell? ⟨b8,0,none⟩=some (iN qi 0):=(by grind [Aeq]);have r1:u.cell? ⟨b8,1,none⟩=some (iN qi 0):=(by grind [Aeq]);have rf:∀j,u.frozen? ⟨b8,j,none⟩=false:=(λj=>by simp[Aem,y]);clear y)
  refine Ai8 (v:=.tuple #[.agg #[iN qi x0,iN qi x1],iN qi 0]) (by simp[Ak1,go_sem,r0,r1]) rfl ⟨_,rfl,?_⟩;refine⟨Kp.set (Kp.set (M.out.kp.grownX Hg.out λj e=>by cases e;exact L) M.out.lo _) M.out.lo _,?_⟩;rw[F.out,if_pos rfl]
 have F:=lH q;obtain⟨ts,rfl,K,J,h8,O,h2,S,-⟩:=s.lit;simp only[owF,sqR,jK,f19,Agx,up,Akz,K,J,h8,O,h2,S];clear T r U s H I p g;generalize nS B n f t=al at*
 go_wp2_with fail
 refine Ai8 (v:=.tuple #[.agg #[iN qi 0,iN qi 0],iN qi al]) (by simp[Ak1,go_sem,r0,r1]) rfl ⟨_,rfl,?_⟩;exact⟨Kp.set (Kp.set M.out.kp M.out.lo _) M.out.lo _,by rw[if_neg F.out]⟩
def abw(q:GBk w V B)(n f t:Int):bT tP 19 #[V.val B,iN qi n,iN qi f,iN qi t] w (nP w (nS B n f t) (iY B n.toNat f t)):=by
 refine iU (fn:=f19) (x:=jK) rfl rfl ?_;have e:jK=.seq owA (.seq owB (.seq owC (.seq owE owF))):=xD
 rw[e];exact aQ (abp (n:=n) (f:=f) (t:=t) λa1 w1 b4 b8 s c1=>aQ (abq s c1 λF I y p=>aQ (abr y p λG J A g=>aQ (abu q A g.kp g.cells λH K l r D E=>abv l.2.1 l (g.kpr r) D E λ_ _ h=>h))))
end
section
variable {w:wD} {V:BkV} {B:Bk}
def qH:Code:=(f49.body).getD .skip
def chA:Code:=sqL qH
def chE:Code:=sqL (sqR qH)
def chF:Code:=sqR (sqR qH)
def chL(e:Int)(b2 b3 b4:Nat):List (Nat×vL):=[(2,pN (some ⟨b2,0,none⟩)),(3,pN (some ⟨b3,0,none⟩)),(4,pN (some ⟨b4,0,none⟩))]
def abx(K:∀g w1 b2 b3 b4,Sl g 35 (chL n b2 b3 b4)->WB w w1 V B b2 b4->Cells w1 [(⟨b3,0,none⟩,iN qi n)]->GLb tP (Aks 49) k R g w1):
 GLb tP (Aks 49) (.code chA::k) R {tmps:=#[V.val B,iN qi n]++Afc (f49.ntmps-2) ud,defers:=[]} w:=by
 refine fP (S:=λa w1=>∃b2 b3 b4,Sl a 35 (chL n b2 b3 b4)/\WB w w1 V B b2 b4/\Cells w1 [(⟨b3,0,none⟩,iN qi n)]) ⟨f49,rfl,xD⟩ xN rfl xD xD (λa w1 τ d ⟨b2,b3,b4,l,h2,p⟩=>⟨b2,b3,b4,l,WB.tp.1 h2,gX.1 p⟩) (λτ=>?_) λg w1 _ ⟨b2,b3,b4,l,h2,p⟩=>K g w1 b2 b3 b4 l h2 p;obtain⟨W,q⟩:∃W,W=w.tp τ 0 noJ:=⟨_,rfl⟩;have r:Kp w W:=by rw[q];exact Kp.tp_r.2 (.refl _)
 rw[<-q];clear q;obtain⟨za,la,s,pa,zc,lc,cc,pc⟩:=V;simp only[chA,sqL,qH,f49,Agx,Ags,Agt,Akx,Akw,Akp,Akn,Aky];go_wp2;refine⟨W.heap.size,W.heap.size+1,W.heap.size+1+1,xT,⟨((r.trans (Kp.alloc _ _)).trans (Kp.alloc _ _)).trans (Kp.alloc _ _),?_,last_at yW,by have:=r.size;omega⟩,?_⟩
 ·simp only[aB,Cells,and_true];go_simp
 simp only[Cells,and_true];go_simp
def aby:List Nat:=[4,5,6,7,8,9,10,0,0,1,2,3,2,2]
def abz(M:GBk w V B)(hS:Sl a 35 [(2,pN (some ⟨b2,0,none⟩)),(3,pN (some ⟨b3,0,none⟩)),(4,pN (some ⟨b4,0,none⟩))])(O:Kp w w1)(hc:Cells w1 (aB b2 V B++[(⟨b3,0,none⟩,iN qi n)]))(K:∀E s,Sl E 35 [(2,pN (some ⟨b2,0,none⟩)),(3,pN (some ⟨b3,0,none⟩)),(4,pN (some ⟨b4,0,none⟩))]->Kp w1 s->E.tmps[7]?.getD ud=iN qi (aA B (btw n 0 ((B.C.length:Int)-1)) 0)->fQ w.heap.size w1.heap.size V B (aA B (btw n 0 ((B.C.length:Int)-1)) 0) (E.tmps[6]?.getD ud) s->GLb tP (Aks 49) k R E s):GLb tP (Aks 49) (.code chE::k) R a w1:=by
 have N:(Aks 49).kind≠.early:=by intro e;cases e
 have aa:=M.bk.nl;have U:IntKind.wrap qi ((B.C.length:Int)-1)=(B.C.length:Int)-1:=IntWalk.i64_in _ (by have:=M.bk.nc;omega);simp only[chE,sqL,sqR,qH,f49,Agx];refine uH rfl hS [[],[],[],[2],[3],[4],[1,5],[0,6],[7],[8],[8],[],[11,9,7,0,1,2,3,4,5,6,8],[10,12,0,1,2,3,4,5,6,7,8,9,11]] ([some 10,some 11,some 12,some 13,some 14,some 15,some 16,some 17,some 9,some 18,some 19,some 6,none,some 7]:List (Option Nat)) (λi v u=>aN w.heap.size w1.heap.size V B (aA B (btw n 0 ((B.C.length:Int)-1)) 0) [(V.val B:vL),(iN qi n:vL),(pN (some ⟨b2,5,none⟩):vL),(sL V.ca B.C.length V.cc:vL),(iN qi (B.C.length:Int):vL),(iN qi ((B.C.length:Int)-1):vL),(.bool (btw n 0 ((B.C.length:Int)-1)):vL)] v u (aby.getD i 0)) 12 11 (fQ w.heap.size w1.heap.size V B (aA B (btw n 0 ((B.C.length:Int)-1)) 0)) xD xD (ks:=[2,3,4]) rfl xD zE zE ⟨zE,zE⟩ rfl ?_ ?_ λE s F h2 Q h4=>K E s F h2 (Q 13 zE zE) h4
 ·intro fd a1 s i rest J G g l hi r A K;obtain⟨_,_,s2,s3,s4,_⟩:=G;have H:=g.cells hc;simp only[aB,Akn,Akp,Cells,and_true]at H;obtain⟨q0,q1,q2,q3,q4,Z,q6,q7⟩:=H;have S:=M.kp (O.trans g);have T:=(O.trans g).size
  match i,hi with
  |0,_=>exact kpk (V.val B) (okA rfl) (λτ d=>by simp[go_sem,aT,s2,q0,q1,q2,q3,q4,Z,q6]) rfl g K
  |1,_=>exact kpk (iN qi n) (okA rfl) (λτ d=>by simp[go_sem,aT,s3,q7]) rfl g K
  |2,_=>exact kpk (pN (some ⟨b2,5,none⟩)) (okA rfl) (λτ d=>by simp[go_sem,s2]) rfl g K
  |3,_=>have v2:a1.tmps[12]?.getD ud=pN (some ⟨b2,5,none⟩):=l 2 zE zE (r 2 zE);exact kpk (sL V.ca B.C.length V.cc) (okA rfl) (λτ d=>by simp[go_sem,aT,v2,Z]) rfl g K
  |4,_=>have X:a1.tmps[13]?.getD ud=sL V.ca B.C.length V.cc:=l 3 zE zE (r 3 zE);exact kpk (iN qi (B.C.length:Int)) (okA rfl) (λτ d=>by simp[go_sem,X]) rfl g K
  |5,_=>have v4:a1.tmps[14]?.getD ud=iN qi (B.C.length:Int):=l 4 zE zE (r 4 zE);exact kpk (iN qi ((B.C.length:Int)-1)) (okA rfl) (λτ d=>by simp[go_sem,v4,U]) rfl g K
  |6,_=>
   have W:a1.tmps[11]?.getD ud=iN qi n:=l 1 zE zE (r 1 zE);have v5:a1.tmps[15]?.getD ud=iN qi ((B.C.length:Int)-1):=l 5 zE zE (r 5 zE);refine iW (Ri:=λv _=>v=.bool (btw n 0 ((B.C.length:Int)-1))) (f:=114) (fn:=f114) rfl rfl rfl rfl rfl rfl N rfl xD (λ_ _ _ _ h=>h) (λτ=>?_) (λu L=>⟨λj _ _ _ _ h=>h.kp L,λI=>absurd rfl (A I 6 zE)⟩) g K;have e:(#[Ak0 11,.const (iN qi 0),.tmp 15]:Array Operand).map a1.eval=#[iN qi n,iN qi 0,iN qi ((B.C.length:Int)-1)]:=by simp[Ahq,W,v5]
   rw[e];exact(dK n 0 ((B.C.length:Int)-1) (s.tp τ 0 noJ)).mono λe w' ⟨F,h2⟩=>⟨_,F,by rw[<-h2];exact Kp.tp_r.2 (.refl _),rfl⟩
  |7,_=>
   have v0:a1.tmps[10]?.getD ud=V.val B:=l 0 zE zE (r 0 zE);have v6:a1.tmps[16]?.getD ud=.bool (btw n 0 ((B.C.length:Int)-1)):=l 6 zE zE (r 6 zE);refine o8 (Ri:=λv u=>aN w.heap.size w1.heap.size V B (aA B (btw n 0 ((B.C.length:Int)-1)) 0) [(V.val B:vL),(iN qi n:vL),(pN (some ⟨b2,5,none⟩):vL),(sL V.ca B.C.length V.cc:vL),(iN qi (B.C.length:Int):vL),(iN qi ((B.C.length:Int)-1):vL),(.bool (btw n 0 ((B.C.length:Int)-1)):vL)] v u 0) (f:=81) (fn:=f81) rfl rfl rfl rfl rfl rfl N rfl xD ?_ (λu L=>⟨λj _ _ _ _ h=>h.kp L,λI=>absurd rfl (A I 7 zE)⟩) g K;have e:(#[Ak0 10,.tmp 16,.const (iN qi 0)]:Array Operand).map a1.eval=#[V.val B,.bool (btw n 0 ((B.C.length:Int)-1)),iN qi 0]:=by simp[Ahq,v0,v6]
   rw[e];exact uI S _ _ T
  |8,_=>have v7:aN w.heap.size w1.heap.size V B (aA B (btw n 0 ((B.C.length:Int)-1)) 0) [] (a1.tmps[17]?.getD ud) s 0:=l 7 zE zE (r 7 zE);exact kpk (a1.tmps[17]?.getD ud) (okA rfl) (λτ d=>by simp[go_sem]) v7 g K
  |9,_=>have Y:aN w.heap.size w1.heap.size V B (aA B (btw n 0 ((B.C.length:Int)-1)) 0) [] (a1.tmps[9]?.getD ud) s 0:=l 8 zE zE (r 8 zE);obtain⟨y,y1,y2⟩:=Y;exact kpk y (okA rfl) (λτ d=>by simp[go_sem,y1]) y2 g K
  |10,_=>have Y:aN w.heap.size w1.heap.size V B (aA B (btw n 0 ((B.C.length:Int)-1)) 0) [] (a1.tmps[9]?.getD ud) s 0:=l 8 zE zE (r 8 zE);obtain⟨y,y1,y2⟩:=Y;exact kpk (iN qi (aA B (btw n 0 ((B.C.length:Int)-1)) 0)) (okA rfl) (λτ d=>by simp[go_sem,y1]) rfl g K
  |11,_=>
   refine rV (pN (some ⟨s.heap.size,0,none⟩)) (cL #[iN qi 0,iN qi 0,iN qi 0,sL none 0 0,sL none 0 0,sL none 0 0,sL none 0 0,.map none,sL none 0 0] 118) (okA rfl) N rfl (λτ d=>?_) (λu L=>⟨λj _ _ _ _ h=>h.kp L,λI=>absurd rfl (A I 11 zE)⟩) g ⟨s.heap.size,_,rfl,g.size,last_at rfl,rfl⟩ K λe=>by cases e
   simp[go_sem];rw[aP]
  |13,_=>have D:aN w.heap.size w1.heap.size V B (aA B (btw n 0 ((B.C.length:Int)-1)) 0) [] (a1.tmps[19]?.getD ud) s 2:=l 10 zE zE (r 10 zE);replace D:a1.tmps[19]?.getD ud=iN qi (aA B (btw n 0 ((B.C.length:Int)-1)) 0):=D;exact kpk (iN qi (aA B (btw n 0 ((B.C.length:Int)-1)) 0)) (okA rfl) (λτ d=>by simp[go_sem,D]) rfl g K
  |12,_=>exact absurd rfl J
 intro fd a1 s rest G g l r K;have X:aN w.heap.size w1.heap.size V B (aA B (btw n 0 ((B.C.length:Int)-1)) 0) [(V.val B:vL),(iN qi n:vL),(pN (some ⟨b2,5,none⟩):vL),(sL V.ca B.C.length V.cc:vL),(iN qi (B.C.length:Int):vL),(iN qi ((B.C.length:Int)-1):vL),(.bool (btw n 0 ((B.C.length:Int)-1)):vL)] (a1.tmps[6]?.getD ud) s 3:=l 11 zE zE (r 11 zE);have W:aN w.heap.size w1.heap.size V B (aA B (btw n 0 ((B.C.length:Int)-1)) 0) [(V.val B:vL),(iN qi n:vL),(pN (some ⟨b2,5,none⟩):vL),(sL V.ca B.C.length V.cc:vL),(iN qi (B.C.length:Int):vL),(iN qi ((B.C.length:Int)-1):vL),(.bool (btw n 0 ((B.C.length:Int)-1)):vL)] (a1.tmps[18]?.getD ud) s 1:=l 9 zE zE (r 9 zE);refine uJ (p:=6) (q:=18) (okA rfl) rfl N rfl (M.kp O) g X W λw3 F h2 Q=>K w3 F (λj _ _ _ h=>h2 _ _ h) Q
def wK(B:Bk)(i:Nat):Int×Int:=jU ((B.hs (B.callAt i).line.toNat).map (kN B i))
def nU(B:Bk)(n:Int):Int:=aA B (btw n 0 ((B.C.length:Int)-1)) 0
def abA(hG:GBk w V B)(hd:a.defers=[])(hS:Sl a 35 (chL n b2 b3 b4))(y:WB w w1 V B b2 b4)(J:Cells w1 [(⟨b3,0,none⟩,iN qi n)])(e7:a.tmps[7]?.getD ud=iN qi (nU B n))(ak:fQ w.heap.size n1 V B (nU B n) (a.tmps[6]?.getD ud) w1)(hR:∀v w',nP w (nU B n) (wK B n.toNat) v w'->R v w'):GLb tP (Aks 49) [.code chF] R a w1:=by
 refine o7 (fn:=f49) (Q:=nP w (nU B n) (wK B n.toNat)) rfl xD xN hd xD xD (λv w' τ d h=>nP.tp h) (λτ=>?_) hR;obtain⟨W,hW⟩:∃W,W=w1.tp τ 0 noJ:=⟨_,rfl⟩;obtain⟨b6,l,e6,_,hO,ay,g⟩:=ak;replace y:WB w W V B b2 b4:=by rw[hW];exact WB.tp.2 y
 replace J:Cells W [(⟨b3,0,none⟩,iN qi n)]:=by rw[hW];exact gX.2 J
 replace hO:bQ w.heap.size V B (nU B n) (.agg l) W:=by rw[hW];exact bQ.tp.2 hO
 replace g:W.heap[b6]? =some (cL l 118 (0,0)):=by rw[hW,aP];exact g
 rw[<-hW];clear hW;have q:=y.res;have ag:=(aS.1 q).1;have H:Sl a 35 [(7,iN qi (nU B n)),(6,pN (some ⟨b6,0,none⟩)),(2,pN (some ⟨b2,0,none⟩)),(3,pN (some ⟨b3,0,none⟩)),(4,pN (some ⟨b4,0,none⟩))]:=⟨hS.1,hS.2.1,e7,e6,hS.2.2⟩;have r0:W.cell? ⟨b4,0,none⟩=some (iN qi 0):=by simp[Aeq,q]
 have r1:W.cell? ⟨b4,1,none⟩=some (iN qi 0):=by simp[Aeq,q]
 have rf:∀j,W.frozen? ⟨b4,j,none⟩=false:=λj=>by simp[Aem,q]
 have Z:=lH y;by_cases D:nU B n=0
 ·obtain⟨hA,S,m,C,hl,N⟩:=hO.2 D;have ah:=(wJ D).2.1;have ao:=bJ ah;have hF:=kK hA;obtain⟨i,rfl⟩:∃i:Nat,n=(i:Int):=⟨n.toNat,zP⟩;have hi:i<B.C.length:=zP
  have hx:B.C[i]? =some B.C[i]:=List.getElem?_eq_getElem hi;have X:=hF.call i _ hx;have ai:B.callAt i=B.C[i]:=by unfold Bk.callAt;rw[hx];rfl
  obtain⟨cb,co,ae,y0,y1,y2,y3,y4,y5,y6⟩:=(y.kp|>hG.bk.kp).at_.C i _ hx;have hE:wK B ((i:Int)).toNat=jU ((B.hs (B.callAt i).line.toNat).map (kN B i)):=rfl;rw[hE,ai];clear hE ai;generalize B.C[i]=x at*;obtain⟨k,ar⟩:∃k:Nat,x.line=(k:Int):=⟨x.line.toNat,by have:=X.line;omega⟩;have hk:k<B.L.length:=by have:=X.line;omega
  have af:x.line.toNat=k:=zP
  rw[ar]at y0;rw[af];have Y:=N.mlow;have aw:b4≠m:=λe=>by obtain⟨es,c,hm⟩:=N.kn.isMap;rw[<-e,q]at hm;cases hm
  rw[uK hl]at g;have U:Cells W (cu b6 V B m C++[(⟨b3,0,none⟩,iN qi (i:Int))]):=by simp only[cu,Akn,Akp,Cells,and_true]at J⊢;exact⟨by simp[Aeq,g],by simp[Aeq,g],by simp[Aeq,g],by simp[Aeq,g],by simp[Aeq,g],by simp[Aeq,g],by simp[Aeq,g],by simp[Aeq,g],by simp[Aeq,g],J⟩
  have am:=y.cells;obtain⟨G,I⟩:∃G,G=W.alloc (cL #[iN qi (k:Int),iN qi x.far,iN qi x.a0,iN qi x.a1,iN qi x.c0,iN qi x.c1,iN qi x.made] 62):=⟨_,rfl⟩;have F:Kp W G:=by rw[I];exact Kp.alloc _ _
  have aq:W.grownBy G none:=by rw[I];exact bY (eF _ _) _
  have A:=N.kp F;have ad:Cells G (cu b6 V B m C++[(⟨b3,0,none⟩,iN qi (i:Int)),(⟨W.heap.size,1,none⟩,iN qi x.far)]):=by have:=F.cells U;simp only[cu,Akn,Akp,Cells,and_true]at this⊢;obtain⟨z0,z1,z2,z3,z4,z5,z6,z7,z8,z9⟩:=this;exact⟨z0,z1,z2,z3,z4,z5,z6,z7,z8,z9,by rw[I];go_simp⟩
  have an:(B.hs k).length<=3000:=qC hF hk;have ab:Hid (cF tP 92 #[nM V B m C,iN qi (k:Int),.func (.func 121) #[] #[pN (some ⟨b3,0,none⟩),pN (some ⟨b6,0,none⟩),pN (some ⟨W.heap.size,0,none⟩)]] G λe u=>∃K pc,e=rT (sL K ((B.hs k).map (kN B i)).length pc)/\Hid (aF u K ((B.hs k).map (kN B i)))/\Hid (G.grownBy u (some m))):=lH (by
   refine(c92 V B hF w.heap.size m C k hk 121 _ (kN B i) G A (cf func121 rfl rfl) λu p M h2 hp=>?_).mono ?_
   ·exact Z8 V B hF m C i b3 b6 W.heap.size x p u (A.at_.grown M A.kn.isMap) h2 (ad.grown M λj e=>by cases e;exact A.kn.isMap) (BQ hF hk p hp) hx
   rintro e u ⟨r,rfl,M,h2,O⟩;obtain⟨K,pc,rfl,hn,_,_⟩:=yw M yW;exact⟨K,pc,by rw[List.length_map],lH hn,lH O⟩)
  have aa:Hid (∀(u:wD) (K:Option Addr) (pc:Nat),aF u K ((B.hs k).map (kN B i))->cF tP 120 #[sL K ((B.hs k).map (kN B i)).length pc] u λe u'=>e=rT (.agg #[iN qi (jU ((B.hs k).map (kN B i))).1,iN qi (jU ((B.hs k).map (kN B i))).2])/\Below u.heap.size u u'):=lH λu K pc hn=>Ny _ K pc u hn (by simpa using Gu S hk) (by simpa using Agd an zP);have T:=lH D;have ac:Hid (∀u u2:wD,G.grownBy u (some m)->Below u.heap.size u u2->u2.heap[b4]? =some (cL #[iN qi 0,iN qi 0] 32 (0,0))):=lH λu u2 M h2=>by have O:b4<G.heap.size:=nL ag F.size;rw[h2.block b4 (nL O M.size),M.block b4 O (λe=>aw (by cases e;rfl)),F.block b4 ag];exact q
  have HK:Hid (∀u u2:wD,G.grownBy u (some m)->Below u.heap.size u u2->Kp w u2):=lH λu u2 M h2=>((Z.out.kp.trans F).grownX M λj e=>by cases e;exact Y).trans (Kp.of_below h2);rw[I]at ab ac HK;obtain⟨za,la,ca,pa,zc,lc,cc,pc⟩:=V;simp only at ae;subst ae;have ap:=wBk W _ y0;simp only at ap;obtain⟨z0,z1,z2,z3,z4,z5,z6,-⟩:=am;simp only[cu,Akn,Akp,Cells,and_true]at U;obtain⟨q0,q1,q2,q3,q4,q5,q6,q7,q8,q9⟩:=U;have av:=wBk W _ q0;have au:=wBk W _ q9;simp only at av au;rw[D]at H;obtain⟨ts,rfl,h7,h6,h2,O,h4,-⟩:=H.lit;simp only[chF,sqR,qH,f49,Agx,up,Akz,h7,h6,h2,O,h4];clear hO g hS H e6 e7 N hl D ah ao hA y q S J ad A F aq I af X hx hG;generalize (B.hs k).map (kN B i)=L at*;generalize jU L=E at*;obtain⟨x0,x1⟩:=E;have ax:(i:Int)<(B.C.length:Int):=zP
  go_wp2_with (go_at_call 92;refine ab.out.mono ?_;rintro e u ⟨K,az,rfl,Hn,Hg⟩)
  refine(aa.out _ _ _ Hn.out).mono ?_;rintro e u2 ⟨rfl,hb⟩;have s:=ac.out _ _ Hg.out hb;have aj:=lH (HK.out _ _ Hg.out hb);clear hb r0 r1 rf;have r0:u2.cell? ⟨b4,0,none⟩=some (iN qi 0):=by simp[Aeq,s]
  have r1:u2.cell? ⟨b4,1,none⟩=some (iN qi 0):=by simp[Aeq,s]
  have rf:∀j,u2.frozen? ⟨b4,j,none⟩=false:=λj=>by simp[Aem,s]
  clear s;go_wp2;refine Ai8 (v:=.tuple #[.agg #[iN qi x0,iN qi x1],iN qi 0]) (by simp[Ak1,go_sem,r0,r1]) rfl ⟨_,rfl,?_⟩;refine⟨Kp.set (Kp.set aj.out Z.out.lo _) Z.out.lo _,?_⟩;rw[T.out,if_pos rfl]
 have T:=lH D;obtain⟨ts,rfl,h7,h6,h2,O,h4,-⟩:=H.lit;simp only[chF,sqR,qH,f49,Agx,up,Akz,h7,h6,h2,O,h4];clear hO g hS H e6 e7 y q hG;generalize nU B n=al at*
 go_wp2_with fail
 refine Ai8 (v:=.tuple #[.agg #[iN qi 0,iN qi 0],iN qi al]) (by simp[Ak1,go_sem,r0,r1]) rfl ⟨_,rfl,?_⟩;exact⟨Kp.set (Kp.set Z.out.kp Z.out.lo _) Z.out.lo _,by rw[if_neg T.out]⟩
def abB(l:GBk w V B)(n:Int):bT tP 49 #[V.val B,iN qi n] w (nP w (nU B n) (wK B n.toNat)):=by
 refine iU (fn:=f49) (x:=qH) rfl rfl ?_;have e:qH=.seq chA (.seq chE chF):=xD
 rw[e];refine aQ (abx (n:=n) λa1 w1 b2 b3 b4 s c1 g=>aQ (abz l s c1.kp ?_ λD E q p y A=>abA l q.2.1 q (c1.kpr p) (p.cells g) y A λ_ _ h=>h));have r:=c1.cells;simp only[aB,Akn,Akp,Cells,and_true]at r g⊢
 grind
end
section
variable {w:wD} {V:BkV} {B:Bk}
def AgR(w0:wD)(B:Bk)(v:vL)(w:wD):Prop:=Kp w0 w/\v=.tuple #[.bool (decide (aV B=0)&&B.can B.all),iN qi (aV B)]
theorem AgR.tp(h:AgR w0 B v (w.tp τ d noJ)):AgR w0 B v w:=⟨Kp.tp_r.1 h.1,h.2⟩
end
end Go.Proofs.Y
