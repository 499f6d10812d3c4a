/- Part; no conditions. -/
import Derived.Test.YtokgkggocgpcfaaGreatDoorCheap13
open List renaming getElem?_eq_getElem->lG,findIdx?_eq_some_iff_getElem->Aik,append_toArray->Akw,push_toArray->Akx,cons_append->Akn,nil_append->Akp,mem_cons->Ab3,all_cons->Afl
open Go.World renaming block_lt_of_cell?->wBk,cell?_of_block->Ah0,cell?->Aeq
open Array renaming getElem?_eq_some_iff->aS,replicate_succ->Ags,replicate_zero->Agt,replicate->Afc
open Bool renaming false_eq_true->kF,and_eq_true->Aal,and_true->Alh
open Option renaming getD_some->Agx
open Nat renaming le_refl->nR,reduceAdd->Akz,zero_le->Aih,lt_of_lt_of_le->nL
open Go.Operand renaming const->Ali,tmp->Ak0
open Go.Conc renaming base->Aks
open And renaming intro->Ajb
open Go.Act renaming eval->Ahq
open Go renaming Addr->aD,Calls->cF,Value->vL,World->wD,wp_block->Alj,wp_mono->Alk,undef->ud
open Go.RowKit renaming Below->bX
open Go.IntKind renaming i64->qi
open Go.Value renaming int->iN,slice->sL,pointer->pN
open Go.Ending renaming returned->rT
open Go.Obj renaming cells->cL
open Go.Lib renaming hid->lH
open Go.Proofs.Tryz renaming prog->tP
open Go.Proofs.Tryz
set_option maxRecDepth 100000
set_option maxHeartbeats 4000000
noncomputable section
set_option linter.all false
namespace Go.Proofs.Y
open Go.RowKit Go.Tp Go.Meter Go.Conc Go.ConcN
variable {u w1:wD} {qa:Option aD} {R:vL->wD->Prop} {k:List Item} {a:Act} {v:vL}
section
open Go.ChangeMaps (setBlock)
section
variable {f:FuncId} {a:Act} {w:wD} {k:List Item} {d N:Nat} {l:List (Nat×vL)} {R:vL->wD->Prop}
def kZ{x y:Code}(t:Bool)(e:Sl a N ((d,.bool t)::l))(h:GLb tP (Aks f) (.code (if t then x else y)::k) R a w):GLb tP (Aks f) (.code (.cond (.tmp d) x y)::k) R a w:=
 Zd t (by have:=e.2.2.1;simpa[Ahq]using this) (by grind) (by grind) h
end
def jc(l b8 r:Nat)(tm:Array vL)(B:Bk)(L:List (List Nat))(w:wD)(v:vL)(w':wD):Prop:=
 Kx l b8 w w'/\match dX B L with
 |none=>v=.bool true/\w'.heap[l]? =w.heap[l]? /\w'.heap[b8]? =w.heap[b8]?
 |some ks=>v=.bool false/\w'.heap[l]? =some (.finalizers (gK 6 r tm) (some 26))/\∃qa pc,w'.heap[b8]? =some (cL #[sL qa ks.length pc] 28 (0,0))/\aF w' qa (nn ks)/\aJ w' qa
structure ClS (w0:wD) (V:BkV) (B:Bk) (l r b5 b8:Nat) (tm:Array vL):Prop where
 book:GBk w0 V B
 fine:B.Fine
 hl0:w0.heap.size<=l
 h80:w0.heap.size<=b8
 hl8:l≠b8
 sl:∀v,Sl ⟨tm.setIfInBounds 40 v,[]⟩ 52 [(5,pN (some ⟨b5,0,none⟩)),(8,pN (some ⟨b8,0,none⟩)),(40,v)]
 np:B.P.length<=1000
section
variable {w0 w:wD} {V:BkV} {B:Bk} {l r b5 b8 bs b3 bn b4 s:Nat} {tm:Array vL}
def jc.from{w':wD}{L:List (List Nat)}(h:jc l b8 r tm B L u v w')(k:Kp w1 u)(A:l<w1.heap.size)(y:b8<w1.heap.size):jc l b8 r tm B L w1 v w':=by
 obtain⟨q,h2⟩:=h;refine⟨(Kx.of_kp k).trans q,?_⟩
 cases e:dX B L with
 |none=>rw[e]at h2;exact⟨h2.1,h2.2.1.trans (k.block l A),h2.2.2.trans (k.block b8 y)⟩
 |some ks=>rw[e]at h2;exact h2
theorem jc.bool{w':wD}{L:List (List Nat)}(h:jc l b8 r tm B L u v w'):∃c,v=.bool c/\jc l b8 r tm B L u (.bool c) w':=by
 have h2:=h.2
 grind
def ClW.book5(h:ClW w0 V B l r b5 b8 bs b3 bn b4 tm s w)(k:Kx l b8 w u):Cells u (aB b5 V B):=by
 have hc:∀j v,w.cell? ⟨b5,j,none⟩=some v->u.cell? ⟨b5,j,none⟩=some v:=λj v y=>by
  have hlt:=wBk w _ y;have q:b5≠l:=λe=>by subst e;simp[Aeq,h.loop]at y
  rw[Ah0 (w:=w) (k.block b5 hlt q h.b5n)];exact y
 have:=h.book;simp only[aB,Cells,and_true]at this⊢
 grind
def ClW.noL(h:ClW w0 V B l r b5 b8 bs b3 bn b4 tm s w):∀j,w.cell? ⟨l,j,none⟩=none:=λj=>by simp[Aeq,h.loop]
def ClW.no8(h:ClW w0 V B l r b5 b8 bs b3 bn b4 tm s w):∀j v,w.cell? ⟨b8,j,none⟩=some v->∀x,v≠iN qi x:=λj v q x=>by
 rw[(aX h.c8 j).1]at q
 match j,q with
 |0,q=>cases q;intro e;cases e
def aJ.kx(h:aJ w qa)(k:Kx l b8 w u)(q:∀x,qa=some x->x.block≠l/\x.block≠b8):aJ u qa:=λx hx=>by obtain⟨c,t,z,e⟩:=h x hx;exact⟨c,t,z,by rw[k.block x.block (aS.1 e).1 (q x hx).1 (q x hx).2];exact e⟩
def ac0{e:List Nat}{pc:Nat}(C:ClS w0 V B l r b5 b8 tm)(q:ClW w0 V B l r b5 b8 bs b3 bn b4 tm s w)(G:∀i∈e,i<B.P.length)(F:e.length<=1000)(hn:aF w qa (nn e))(I:aJ w qa)(y:∀x,qa=some x->x.block≠l/\x.block≠b8):
 GLe tP (Aks 26) (some l) [.code sG,.beginRound,.code sH] (wL tP λv H=>jc l b8 r tm B [e] w v H) {tmps:=tm.setIfInBounds 40 (sL qa e.length pc),defers:=[]} w:=by
 refine acT C.book C.fine q.kp C.hl0 C.h80 C.hl8 q.loop (C.sl _) (λu k=>q.book5 k) q.c8 (by grind) G F hn I y (λhc H k A D=>?_) λhc H k A D=>?_
 ·refine⟨k,?_⟩;have:dX B [e]=none:=by simp[dX,hc]
  rw[this];exact⟨rfl,A.trans q.loop.symm,D⟩
 refine⟨k,?_⟩;have:dX B [e]=some e:=by simp[dX,hc]
 rw[this];exact⟨rfl,A,qa,pc,D,hn.kx k q.noL q.no8,I.kx k y⟩
def ac1(C:ClS w0 V B l r b5 b8 tm)(hs:s<=1000):∀(d:Nat) (q:List Nat) (D:Nat) (w:wD) (qa:Option aD) (pc:Nat),q.length+d=s->(∀i∈q,i<B.P.length)->D<=B.P.length->ClW w0 V B l r b5 b8 bs b3 bn b4 tm s w->aF w qa (nn q)->aJ w qa->(∀x,qa=some x->x.block≠l/\x.block≠b8)->
 bT tP 149 #[sL qa q.length pc,iN qi (D:Int),pN (some ⟨bs,0,none⟩),pN (some ⟨b3,0,none⟩),pN (some ⟨bn,0,none⟩),pN (some ⟨b4,0,none⟩)] w λv G=>∃c,v=.bool c/\jc l b8 r tm B (exts B.P.length d q D) w (.bool c) G:=λd=>by
 have hk:(Aks 149).kind≠.early:=by intro e;cases e
 induction d with
 |zero=>
  intro q D w qa pc hd ad am J hn hq al;refine iU (f:=149) (fn:=f149) (x:=kY) rfl rfl ?_;obtain⟨A,hA⟩:∃A:Act,A={tmps:=#[sL qa q.length pc,iN qi (D:Int),pN (some ⟨bs,0,none⟩),pN (some ⟨b3,0,none⟩),pN (some ⟨bn,0,none⟩),pN (some ⟨b4,0,none⟩)]++Afc (f149.ntmps-6) ud,defers:=[]}:=⟨_,rfl⟩;have hS:Sl A 33 [(0,sL qa q.length pc),(2,pN (some ⟨bs,0,none⟩)),(3,pN (some ⟨b3,0,none⟩))]:=by subst hA;exact⟨by simp[f149],rfl,yW,yW,yW,trivial⟩
  show GLb _ _ _ _ {tmps:=#[sL qa q.length pc,iN qi (D:Int),pN (some ⟨bs,0,none⟩),pN (some ⟨b3,0,none⟩),pN (some ⟨bn,0,none⟩),pN (some ⟨b4,0,none⟩)]++Afc (f149.ntmps-6) ud,defers:=[]} w
  rw[<-hA];simp only[kY,f149,Agx];refine aQ (bK ?_)
  show GLb _ _ (.inRegion _ [0]::_) _ _ _
  refine aC (.bool false) hS λa1 s1=>?_;refine bM (aQ (aQ (bK ?_)))
  show GLb _ _ (.inRegion _ [0,1,2,3]::_) _ _ _
  have ae:q.length=s:=zP
  have ab:=(aX J.cs 0).1;have ap:=(aX J.c3 0).1;have ah:=s1.tl;refine aC (sL qa q.length pc) ah λa2 U=>?_;refine aC (iN qi (q.length:Int)) U λa3 O=>?_;refine aC (iN qi (s:Int)) O (λa4 M=>?_) (hr:=λX d=>by have h:=O.2.2;simp only[SlA]at h;simp[go_sem,h,aT,ab]);refine aC (.bool true) M (λa5 H=>?_) (hr:=λX d=>by have h:=M.2.2;simp only[SlA]at h;simp[go_sem,h,ae]);refine bM (kZ true H ?_);simp only[if_true];refine aQ (bK ?_)
  show GLb _ _ (.inRegion _ [0,1,2,3]::_) _ _ _
  refine aC (.func (.yield l) #[] #[]) H (λa6 s6=>?_) (hr:=λX d=>by have h:=H.2.2;simp only[SlA]at h;simp[go_sem,h,aT,ap]);refine aC (sL qa q.length pc) s6 λa7 I=>?_;have ar:=qO qQ 0 r tm;refine ab2 (x:=14) (y:=15) (Q:=λv G=>jc l b8 r tm B [q] w v G) rfl rfl rfl hk (by have h:=I.2.2;simp only[SlA]at h;simp[h]) J.loop ar rfl ?_ λv w1 hv=>?_
  ·have e:a7.tmps.getD 15 ud=sL qa q.length pc:=by have h:=I.2.2;simp only[SlA]at h;simp[h]
   rw[e];exact ac0 C J ad zP hn hq al
  obtain⟨c,rfl,hv⟩:=hv.bool
  have s8:=oh (d:=16) (v:=.bool c) I
  show GLb _ _ _ _ (a7.put (some 16) _) w1
  generalize a7.put (some 16) (.bool c)=a8 at s8⊢;refine aC (.bool c) s8 λa9 s9=>?_;refine bM (rU (fn:=f149) rfl rfl ?_);have:a9.tmps.getD 8 ud=.bool c:=by have h:=s9.2.2;simp only[SlA]at h;simp[h]
  rw[this];exact⟨c,rfl,hv⟩
 |succ d ih=>
  intro q D w qa pc hd ad am J hn hq al;refine iU (f:=149) (fn:=f149) (x:=kY) rfl rfl ?_;obtain⟨A,hA⟩:∃A:Act,A={tmps:=#[sL qa q.length pc,iN qi (D:Int),pN (some ⟨bs,0,none⟩),pN (some ⟨b3,0,none⟩),pN (some ⟨bn,0,none⟩),pN (some ⟨b4,0,none⟩)]++Afc (f149.ntmps-6) ud,defers:=[]}:=⟨_,rfl⟩;have hS:Sl A 33 [(1,iN qi (D:Int)),(0,sL qa q.length pc),(2,pN (some ⟨bs,0,none⟩)),(3,pN (some ⟨b3,0,none⟩)),(4,pN (some ⟨bn,0,none⟩)),(5,pN (some ⟨b4,0,none⟩))]:=by subst hA;exact⟨by simp[f149],rfl,yW,yW,yW,yW,yW,yW,trivial⟩
  show GLb _ _ _ _ {tmps:=#[sL qa q.length pc,iN qi (D:Int),pN (some ⟨bs,0,none⟩),pN (some ⟨b3,0,none⟩),pN (some ⟨bn,0,none⟩),pN (some ⟨b4,0,none⟩)]++Afc (f149.ntmps-6) ud,defers:=[]} w
  rw[<-hA];have ao:∀(it:List Item) (a:Act) (w:wD),GLb tP (Aks 149) it (λv G=>∃c,v=.bool c/\jc l b8 r tm B (exts B.P.length (d+1) q D) w (.bool c) G) a w->GLb tP (Aks 149) it (λv G=>∃c,v=.bool c/\jc l b8 r tm B (exts B.P.length (d+1) q D) w (.bool c) G) a w:=λ_ _ _ h=>h;have av:=(aS.1 J.loop).1;have aq:=(aS.1 J.c8).1;have aA:∀m i a1 w1,B.P.length-i=m->i<=B.P.length->Sl a1 33 [(9,iN qi (i:Int)),(0,sL qa q.length pc),(2,pN (some ⟨bs,0,none⟩)),(3,pN (some ⟨b3,0,none⟩)),(4,pN (some ⟨bn,0,none⟩)),(5,pN (some ⟨b4,0,none⟩))]->Kx l b8 w w1->w1.heap[l]? =w.heap[l]? ->w1.heap[b8]? =w.heap[b8]? ->dX B (exts B.P.length (d+1) q D)=dX B (exts B.P.length (d+1) q i)->
   GLb tP (Aks 149) (.code moX:: .inLoop moX:: .inBlock 0:: .code (sqR (sqR (sqR kY)))::[]) (λv G=>∃c,v=.bool c/\jc l b8 r tm B (exts B.P.length (d+1) q D) w (.bool c) G) a1 w1:=λm=>by
   induction m with
   |zero=>
    intro i a1 w1 hm hi s1 S e1 e2 ac;have L:i=B.P.length:=zP
    subst L;have K:=J.kx S e1 e2;have aa:=(aX K.cn 0).1;simp only[moX,kY,sqR,sqL,lpB,blB,f149,Agx];refine aQ (aQ (bK ?_))
    show GLb _ _ (.inRegion _ [0,1,2]::_) _ _ _
    refine aC (iN qi (B.P.length:Int)) s1 λa2 U=>?_;refine aC (iN qi (B.P.length:Int)) U (λa3 O=>?_) (hr:=λX d=>by have h:=U.2.2;simp only[SlA]at h;simp[go_sem,h,aT,aa]);refine aC (.bool false) O λa4 M=>?_;refine bM (kZ false M ?_);simp only[kF,if_false];refine Zc rfl (aQ (bK ?_))
    show GLb _ _ (.inRegion _ [0]::_) _ _ _
    refine aC (.bool true) M λa5 H=>?_;refine bM (rU (fn:=f149) rfl rfl ?_);have:a5.tmps.getD 8 ud=.bool true:=by have h:=H.2.2;simp only[SlA]at h;simp[h]
    rw[this];refine⟨true,rfl,S,?_⟩;rw[ac,acV _ _ _ (nR _)];exact⟨rfl,e1,e2⟩
   |succ m ihm=>
    intro i a1 w1 hm hi s1 S e1 e2 ac;have L:i<B.P.length:=zP
    have aI:=C.np;have K:=J.kx S e1 e2;have aa:=(aX K.cn 0).1;have aw:=hn.kx S J.noL J.no8;have aH:(i:Int)<(B.P.length:Int):=zP
    have az:IntKind.wrap qi ((i:Int)+1)=(i:Int)+1:=IntWalk.i64_in _ zP;have hX:GLb tP (Aks 149) (.code moX:: .inLoop moX:: .inBlock 0:: .code (sqR (sqR (sqR kY)))::[]) (λv G=>∃c,v=.bool c/\jc l b8 r tm B (exts B.P.length (d+1) q D) w (.bool c) G) a1 w1=GLb tP (Aks 149) (.code (.seq (sqL moX) (.seq (.block 1 (.seq CJ (sqR (blB (sqL (sqR moX)))))) (sqR (sqR moX)))):: .inLoop moX:: .inBlock 0:: .code (sqR (sqR (sqR kY)))::[]) (λv G=>∃c,v=.bool c/\jc l b8 r tm B (exts B.P.length (d+1) q D) w (.bool c) G) a1 w1:=rfl;rw[hX];clear hX;refine aQ ?_;obtain⟨kk,aj⟩:∃kk,kk=(.code (.seq (.block 1 (.seq CJ (sqR (blB (sqL (sqR moX)))))) (sqR (sqR moX))):: .inLoop moX:: .inBlock 0:: .code (sqR (sqR (sqR kY)))::[]:List Item):=⟨_,rfl⟩;rw[<-aj];simp only[moX,kY,sqR,sqL,lpB,blB,f149,Agx];refine aQ (bK ?_)
    show GLb _ _ (.inRegion _ [0,1,2]::_) _ _ _
    refine aC (iN qi (i:Int)) s1 λa2 U=>?_;refine aC (iN qi (B.P.length:Int)) U (λa3 O=>?_) (hr:=λX d=>by have h:=U.2.2;simp only[SlA]at h;simp[go_sem,h,aT,aa]);refine aC (.bool true) O (λa4 M=>?_) (hr:=λX d=>by have h:=O.2.2;simp only[SlA]at h;simp[go_sem,h,L]);refine bM (kZ true M ?_);simp only[if_true];subst aj;refine rQ (aQ (FN (aQ ?_)));refine acZ (Q:=λv u=>jc l b8 r tm B (exts B.P.length d (q++[i]) (i+1)) w1 v u) M.tl.tl.tl (aX K.c4 0).1 aw zP zP (λu v ku ak=>?_) λa5 u c H hQ=>?_
    ·obtain⟨aE,aB,rfl,ax,ay,ai⟩:=acX (xs:=nn (q++[i])) (by simpa using ak)
     have au:Kx l b8 w1 u:=.of_kp ku;have Z:=nL av S.size;have Y:=nL aq S.size;have:=ih (q++[i]) (i+1) u aE aB xL (λx hx=>by
      rcases List.mem_append.1 hx with hx|hx
      ·exact ad x hx
      rw[List.mem_singleton.1 hx];exact L) zP (K.kx au (ku.block l Z) (ku.block b8 Y)) ax ay λx hx=>⟨λe=>by have:=ai x hx;omega,λe=>by have:=ai x hx;omega⟩
     have e:(nn (q++[i])).length=(q++[i]).length:=yW
     rw[e];exact this.mono λv G ⟨c,h1,h2⟩=>⟨c,h1,h2.from ku Z Y⟩
    have ag:=acU B.P.length d q L
    have F:dX B (exts B.P.length (d+1) q D)=(dX B (exts B.P.length d (q++[i]) (i+1))).or (dX B (exts B.P.length (d+1) q (i+1))):=by rw[ac,ag,Po]
    obtain⟨k2,hQ⟩:=hQ;simp only[moX,kY,sqR,sqL,lpB,blB,f149,Agx]
    cases e3:dX B (exts B.P.length d (q++[i]) (i+1))with
    |none=>
     rw[e3]at hQ F;obtain⟨hc,e4,e5⟩:=hQ
     cases hc
     refine kZ false H ?_;simp only[kF,if_false];refine rQ (Za (bK ?_))
     show GLb _ _ (.inRegion _ [0,1,2]::_) _ _ _
     refine aC (iN qi (i:Int)) H λa6 s6=>?_;refine aC (iN qi ((i:Int)+1)) s6 (λa7 I=>?_) (hr:=λX d=>by have h:=s6.2.2;simp only[SlA]at h;simp[go_sem,h,az]);have an:Sl a7 33 [(22,iN qi ((i:Int)+1)),(0,sL qa q.length pc),(2,pN (some ⟨bs,0,none⟩)),(3,pN (some ⟨b3,0,none⟩)),(4,pN (some ⟨bn,0,none⟩)),(5,pN (some ⟨b4,0,none⟩))]:=⟨I.1,I.2.1,I.2.2.1,I.tl.tl.tl.tl.2.2⟩;refine aC (iN qi ((i+1 :Nat):Int)) an (λa8 s8=>?_) (hr:=λX d=>by have h:=an.2.2;simp only[SlA]at h;simp[go_sem,h]);refine bM (Zb ?_);exact ihm (i+1) a8 u zP zP ⟨s8.1,s8.2.1,s8.2.2.1,s8.tl.tl.2.2⟩ (S.trans k2) (e4.trans e1) (e5.trans e2) (by rw[F];rfl)
    |some ks=>
     rw[e3]at hQ F;obtain⟨hc,af⟩:=hQ
     cases hc
     refine kZ true H ?_;simp only[if_true];refine aQ (bK ?_)
     show GLb _ _ (.inRegion _ [0]::_) _ _ _
     refine aC (.bool false) H λa6 s6=>?_;refine bM (rU (fn:=f149) rfl rfl ?_);have:a6.tmps.getD 8 ud=.bool false:=by have h:=s6.2.2;simp only[SlA]at h;simp[h]
     rw[this];refine⟨false,rfl,S.trans k2,?_⟩;rw[F];exact⟨rfl,af⟩
  simp only[kY,f149,Agx];refine aQ (bK ?_)
  show GLb _ _ (.inRegion _ [0]::_) _ _ _
  refine aC (.bool false) hS λa1 s1=>?_;refine bM (aQ (aQ (bK ?_)))
  show GLb _ _ (.inRegion _ [0,1,2,3]::_) _ _ _
  have ae:¬((q.length:Int)=(s:Int)):=zP
  have ab:=(aX J.cs 0).1;have ah:=s1.tl;refine aC (sL qa q.length pc) ah λa2 U=>?_;refine aC (iN qi (q.length:Int)) U λa3 O=>?_;refine aC (iN qi (s:Int)) O (λa4 M=>?_) (hr:=λX d=>by have h:=O.2.2;simp only[SlA]at h;simp[go_sem,h,aT,ab]);refine aC (.bool false) M (λa5 H=>?_) (hr:=λX d=>by have h:=M.2.2;simp only[SlA]at h;simp[go_sem,h,ae]);refine bM (kZ false H ?_);simp only[kF,if_false];refine rQ (aQ (aQ (bK ?_)))
  show GLb _ _ (.inRegion _ [0,1]::_) _ _ _
  have aG:=H.tl.tl.tl.tl;refine aC (iN qi (D:Int)) aG λa6 s6=>?_;refine aC (iN qi (D:Int)) s6 λa7 I=>?_;refine bM (FN (NG ?_));exact aA _ D a7 w rfl am ⟨I.1,I.2.1,I.2.2.1,I.tl.tl.tl.2.2⟩ (.refl _ _ _) rfl rfl rfl
end
end
section
open Go.ChangeMaps (setBlock)
def sJ:Code:=(f148.body).getD .skip
def liA:Code:=sqL sJ
def liB:Code:=sqL (sqR sJ)
def liC:Code:=sqL (sqR (sqR sJ))
section
variable {w0 w:wD} {V:BkV} {B:Bk} {l r b5 b8 bs bn s:Nat} {tm:Array vL}
def ac2(C:ClS w0 V B l r b5 b8 tm)(hs:s<=1000)(hk0:Kp w0 w)(y:w.heap[l]? =some (.finalizers (gK 0 r tm) (some 26)))(J:w.heap[b8]? =some (cL #[sL none 0 0] 28 (0,0)))(A:Cells w (aB b5 V B))(X:w.heap[bs]? =some (cL #[iN qi (s:Int)] 3 (0,0)))(U:w.heap[bn]? =some (cL #[iN qi (B.P.length:Int)] 3 (0,0)))(ac:b5≠b8)(ae:bs≠b8)(ad:bn≠b8):
 bT tP 148 #[.func (.yield l) #[] #[],pN (some ⟨bs,0,none⟩),pN (some ⟨bn,0,none⟩)] w λ_ w'=>∃c,jc l b8 r tm B (exts B.P.length s [] 0) w (.bool c) w':=by
 have hk:(Aks 148).kind≠.early:=by intro e;cases e
 refine iU (f:=148) (fn:=f148) (x:=sJ) rfl rfl ?_
 show GLb _ _ [.code (.seq liA (.seq liB (.seq liC (sqR (sqR (sqR sJ))))))] _ _ _
 have Y:=(aS.1 y).1;have O:=(aS.1 J).1;have aa:∃fn,tP.funcs[148]? =some fn/\tP.inits.idxOf? 148=none:=⟨f148,rfl,xD⟩;refine aQ (fP (S:=λa u=>Sl a 8 [(3,pN (some ⟨w.heap.size,0,none⟩)),(1,pN (some ⟨bs,0,none⟩)),(2,pN (some ⟨bn,0,none⟩))]/\Kp w u/\u.heap.size=w.heap.size+1/\u.heap[w.heap.size]? =some (cL #[.func (.yield l) #[] #[]] 194 (0,0))) aa hk rfl xD xD (λa u H d ⟨M,h2,h3,h4⟩=>⟨M,Kp.tp_r.1 h2,by rwa [aP]at h3,by rwa [aP]at h4⟩) (λH=>?_) λa1 u1 _ ⟨s1,k1,z1,y1⟩=>?_)
 ·obtain⟨W,F⟩:∃W,W=w.tp H 0 noJ:=⟨_,rfl⟩;have q:Kp w W:=by rw[F];exact Kp.tp_r.2 (.refl _)
  have D:W.heap.size=w.heap.size:=by rw[F,aP]
  rw[<-F];clear F;have HZ:=lH (Ajb q D);clear q D hk0 y J A X U Y O;simp only[liA,sqL,sJ,f148,Agx];go_wp2;obtain⟨q,D⟩:=HZ.out;refine⟨⟨rfl,rfl,by rw[<-D];rfl,rfl,rfl,trivial⟩,q.trans (Kp.alloc _ _),by simp[D],last_at D.symm⟩
 refine aQ (fP (S:=λa u=>Sl a 8 [(4,pN (some ⟨w.heap.size+1,0,none⟩)),(3,pN (some ⟨w.heap.size,0,none⟩)),(1,pN (some ⟨bs,0,none⟩)),(2,pN (some ⟨bn,0,none⟩))]/\Kp u1 u/\u.heap.size=w.heap.size+2/\∃v0:vL,u.heap[w.heap.size+1]? =some (cL #[v0] 86 (0,0))) aa hk s1.2.1 xD xD (λa u H d ⟨M,h2,h3,h4⟩=>⟨M,Kp.tp_r.1 h2,by rwa [aP]at h3,by rwa [aP]at h4⟩) (λH=>?_) λa2 u2 _ ⟨s2,k2,z2,v0,y2⟩=>?_)
 ·obtain⟨W,F⟩:∃W,W=u1.tp H 0 noJ:=⟨_,rfl⟩;have q:Kp u1 W:=by rw[F];exact Kp.tp_r.2 (.refl _)
  have D:W.heap.size=w.heap.size+1:=by rw[F,aP];exact z1
  rw[<-F];clear F;have HZ:=lH (Ajb q D);obtain⟨t,rfl,h3,M,h2,-⟩:=s1.lit;clear q D hk0 y J A X U Y O y1 z1 k1;simp only[liB,sqL,sqR,sJ,f148,Agx,up,Akz,h3,M,h2];go_wp2;obtain⟨q,D⟩:=HZ.out;refine⟨⟨rfl,rfl,by rw[<-D];rfl,rfl,rfl,rfl,trivial⟩,q.trans (Kp.alloc _ _),by simp[D],_,last_at D.symm⟩
 obtain⟨I,K⟩:∃I:vL,I=.func (.func 149) #[] #[pN (some ⟨bs,0,none⟩),pN (some ⟨w.heap.size,0,none⟩),pN (some ⟨bn,0,none⟩),pN (some ⟨w.heap.size+1,0,none⟩)]:=⟨_,rfl⟩;simp only[liC,sqR,sqL,sJ,f148,Agx];refine aQ (bK ?_)
 show GLb _ _ (.inRegion _ [0,1]::_) _ _ _
 refine aC I s2 (λa3 s3=>?_) (hr:=λH d=>by have h:=s2.2.2;simp only[SlA]at h;simp[go_sem,h,K]);refine oW (w1:=u2.setCell ⟨w.heap.size+1,0,none⟩ I) (okA rfl) rfl hk (λH d=>⟨d,?_⟩) ?_
 ·have h:=s3.2.2;simp only[SlA]at h;have ab:=aX y2 0;have g1:(u2.tp H d noJ).cell? ⟨w.heap.size+1,0,none⟩=some v0:=by rw[aT,ab.1];rfl
  have g2:(u2.tp H d noJ).frozen? ⟨w.heap.size+1,0,none⟩=false:=by rw[lI _ _ _ dS];exact ab.2
  subst K;simp[go_sem,h,g1,g2,qy]
 obtain⟨u3,L⟩:∃u3,u3=u2.setCell ⟨w.heap.size+1,0,none⟩ I:=⟨_,rfl⟩;rw[<-L];have af:Kp w u2:=k1.trans k2;have Z:Kp w u3:=by rw[L];exact af.set (by grind) I
 have y4:u3.heap[w.heap.size+1]? =some (cL #[I] 86 (0,0)):=by rw[L];exact(iJ y2 0 I).trans yW
 have y3:u3.heap[w.heap.size]? =some (cL #[.func (.yield l) #[] #[]] 194 (0,0)):=by rw[L,Below.heap_setCell _ _ _ _ (by grind)];exact k2.obj y1
 refine bM (bK ?_)
 show GLb _ _ (.inRegion _ [0,1]::_) _ _ _
 have c4:=(aX y4 0).1;refine aC I s3 (λa4 s4=>?_) (hr:=λH d=>by have h:=s3.2.2;simp only[SlA]at h;simp[go_sem,h,aT,c4]);have F:ClW w0 V B l r b5 b8 bs w.heap.size bn (w.heap.size+1) tm s u3:=⟨hk0.trans Z,Z.obj y,Z.obj J,Z.cells A,Z.obj X,Z.obj U,y3,by rw[y4,K],ac,ae,ad⟩;refine O4 (f:=149) (fn:=f149) (x:=6) (Q:=λv w'=>∃c,v=.bool c/\jc l b8 r tm B (exts B.P.length s [] 0) w (.bool c) w') rfl rfl rfl (by have h:=s4.2.2;simp only[SlA]at h;simp[h,K];rfl) rfl rfl rfl hk xD ?_ λv w1 ⟨c,_,hq⟩=>?_
 ·have hM:=ac1 C hs s [] 0 u3 none 0 yW yW (Aih _) F (λi x hx=>by simp at hx) (λx hx=>by cases hx) λx hx=>by cases hx
  have e:#[Ali (sL none 0 0),Ali (iN qi 0)].map a4.eval++#[pN (some ⟨bs,0,none⟩),pN (some ⟨w.heap.size,0,none⟩),pN (some ⟨bn,0,none⟩),pN (some ⟨w.heap.size+1,0,none⟩)]=#[sL none ([]:List Nat).length 0,iN qi ((0 :Nat):Int),pN (some ⟨bs,0,none⟩),pN (some ⟨w.heap.size,0,none⟩),pN (some ⟨bn,0,none⟩),pN (some ⟨w.heap.size+1,0,none⟩)]:=by simp[Ahq]
  rw[e];refine hM.mono ?_;rintro v w' ⟨c,M,h2⟩;exact⟨c,M,h2.from Z Y O⟩
 refine bM (BI (fn:=f148) rfl (λ_ _ _=>by simp[G,stepG,stepG.exec,Frame.at]) (v:=.tuple #[]) (λH d=>?_) ⟨c,hq⟩);simp[results,f148]
end
end
section
open Go.ChangeMaps (setBlock)
section
variable {w:wD} {V:BkV} {B:Bk}
def clA:Code:=sqL iC
def clB:Code:=sqL clS
def clD:Code:=sqL (sqR clS)
def clE:Code:=sqL (sqL (sqR (sqR clS)))
def ac3{v6:vL}{b9:Nat}(hG:GBk w V B)(X:B.Fine)(hS:Sl a 52 [(5,pN (some ⟨b9,0,none⟩)),(1,v6)])(S:Kp w w1)(hc:Cells w1 (aB b9 V B))(K:∀G D,Sl G 52 [(5,pN (some ⟨b9,0,none⟩)),(1,v6)]->Kp w1 D->bG w.heap.size V B B.all (sv G (some 6)) D 3->bG w.heap.size V B B.all (sv G (some 7)) D 4->GLb tP (Aks 26) k R G D):GLb tP (Aks 26) (.code clE::k) R a w1:=by
 have Y:(Aks 26).kind≠.early:=by intro e;cases e
 have hp:=X.np;simp only[clE,clS,scB,sqL,sqR,iC,f26,Agx];refine yC rfl hS [[],[],[1],[0,2],[3],[4],[4],[5,3,0,1,2,4],[6,7,0,1,2,3,4,5]] ([some 21,some 22,some 23,some 24,some 20,some 25,some 26,some 6,some 7]:List (Option Nat)) (λi v u=>bG w.heap.size V B B.all v u (rr9.getD i 0)) xD xD (ks:=[5,1]) rfl xD ?_ λG D h1 h2 U=>K G D h1 h2 (U 7 zE) (U 8 zE);intro f a1 D i rest J q y hi A K;have q9:a1.tmps[5]?.getD ud=pN (some ⟨b9,0,none⟩):=J.2.2.1;have L:=q.cells hc;obtain⟨Z,q1,q2,q3,q4,q5,q6,-⟩:=L;have I:=hG.kp (S.trans q);have M:=(S.trans q).size
 match i,hi with
 |0,_=>exact kpk (V.val B) (okA rfl) (λF d=>by simp[go_sem,q9,aT,Z,q1,q2,q3,q4,q5,q6]) (rfl) q K
 |1,_=>exact kpk (V.val B) (okA rfl) (λF d=>by simp[go_sem,q9,aT,Z,q1,q2,q3,q4,q5,q6]) (rfl) q K
 |2,_=>
  have v1:a1.tmps[22]?.getD ud=V.val B:=y 1 zE (A 1 zE);refine iW (Ri:=λv u=>bG w.heap.size V B B.all v u 1) (f:=97) (fn:=f97) rfl rfl rfl rfl rfl rfl Y rfl (by simp[aU]) (λv u F d h=>bG.tp h) (λF=>?_) ((λ_ O _ _ _ _ h=>h.kp O)) q K;have e:#[Ak0 22].map a1.eval=#[V.val B]:=by simp[Ahq,v1]
  rw[e];exact Gq zP F
 |3,_=>
  have v0:a1.tmps[21]?.getD ud=V.val B:=y 0 zE (A 0 zE);have v2:bG w.heap.size V B B.all (a1.tmps[23]?.getD ud) D 1:=y 2 zE (A 2 zE);refine o8 (Ri:=λv u=>bG w.heap.size V B B.all v u 2) (f:=96) (fn:=f96) rfl rfl rfl rfl rfl rfl Y rfl (by simp[aU]) ?_ ((λ_ O _ _ _ _ h=>h.kp O)) q K;have e:#[Ak0 21,.tmp 23].map a1.eval=#[V.val B,a1.tmps[23]?.getD ud]:=by simp[Ahq,v0]
  rw[e];exact Gt I X Gs (by grind [Bk.all]) M v2
 |4,_=>have v3:bG w.heap.size V B B.all (a1.tmps[24]?.getD ud) D 2:=y 3 zE (A 3 zE);exact kpk (a1.tmps[24]?.getD ud) (okA rfl) (λF d=>by simp[go_sem]) v3 q K
 |5,_=>obtain⟨C,H,Q⟩:bG w.heap.size V B B.all (a1.tmps[20]?.getD ud) D 2:=y 4 zE (A 4 zE);exact kpk (sL (some ⟨C,0,none⟩) B.L.length B.L.length) (okA rfl) (λF d=>by simp[go_sem,H]) ⟨C,rfl,Q⟩ q K
 |6,_=>obtain⟨C,H,Q⟩:bG w.heap.size V B B.all (a1.tmps[20]?.getD ud) D 2:=y 4 zE (A 4 zE);exact kpk (.bool (B.can B.all)) (okA rfl) (λF d=>by simp[go_sem,H]) rfl q K
 |7,_=>have v5:bG w.heap.size V B B.all (a1.tmps[25]?.getD ud) D 3:=y 5 zE (A 5 zE);exact kpk (a1.tmps[25]?.getD ud) (okA rfl) (λF d=>by simp[go_sem]) v5 q K
 |8,_=>have v6:bG w.heap.size V B B.all (a1.tmps[26]?.getD ud) D 4:=y 6 zE (A 6 zE);exact kpk (a1.tmps[26]?.getD ud) (okA rfl) (λF d=>by simp[go_sem]) v6 q K
def ac4(K:∀q w1 (b1:Nat),Sl q 52 [(1,pN (some ⟨b1,0,none⟩))]->Kp w w1->Cells w1 (aB b1 V B)->GLb tP (Aks 26) k R q w1):
 GLb tP (Aks 26) (.code clA::k) R {tmps:=#[V.val B]++Afc (f26.ntmps-1) ud,defers:=[]} w:=by
 refine fP (S:=λa w1=>∃b1:Nat,Sl a 52 [(1,pN (some ⟨b1,0,none⟩))]/\Kp w w1/\Cells w1 (aB b1 V B)) ⟨f26,rfl,xD⟩ xN rfl xD xD (λa w1 F d ⟨b1,y,h2,A⟩=>⟨b1,y,Kp.tp_r.1 h2,gX.1 A⟩) (λF=>?_) λq w1 _ ⟨b1,y,h2,A⟩=>K q w1 b1 y h2 A;obtain⟨W,D⟩:∃W,W=w.tp F 0 noJ:=⟨_,rfl⟩;have G:Kp w W:=by rw[D];exact Kp.tp_r.2 (.refl _)
 rw[<-D];clear D;obtain⟨za,la,H,pa,zc,lc,cc,pc⟩:=V;simp only[clA,sqL,iC,f26,Agx,Ags,Agt,Akx,Akw,Akp,Akn,Nat.reduceSub];go_wp2;refine⟨W.heap.size,⟨rfl,rfl,rfl,trivial⟩,?_,?_⟩
 ·iterate 1 refine Kp.trans ?_ (Kp.alloc _ _)
  exact G
 simp only[aB,Cells,and_true];go_simp
def pG(B:Bk)(j:Nat):List (List Nat):=(List.range' j (B.P.length+1-j)).flatMap λs=>exts B.P.length s [] 0
def qR(B:Bk):List Nat:=if aV B=0/\B.can B.all=false then(dX B (pG B 0)).getD []else[]
def ClR(w0:wD)(B:Bk)(v:vL)(w:wD):Prop:=Kp w0 w/\∃qa pc,v=.tuple #[sL qa (qR B).length pc,iN qi (aV B)]/\aF w qa (nn (qR B))
def aF.kpt{u':wD}{xs:List Int}(h:aF u qa xs)(k:Kp u u'):aF u' qa xs:=λi x hx=>by obtain⟨b,o,e,hc⟩:=h i x hx;exact⟨b,o,e,k.cell hc⟩
theorem ClR.tp{w0:wD}{w:wD}{τ:Nat->Question->Nat}{d:Nat}(h:ClR w0 B v (w.tp τ d noJ)):ClR w0 B v w:=by obtain⟨q,qa,pc,e,h2⟩:=h;exact⟨Kp.tp_r.1 q,qa,pc,e,h2.kpt (Kp.tp_l.2 (.refl _))⟩
def ac5{b1:Nat}(Y:GBk w V B)(L:Sl a 52 [(1,pN (some ⟨b1,0,none⟩))])(A:Kp w w1)(hc:Cells w1 (aB b1 V B))(Z:∀v F,ClR w B v F->R v F)(K:aV B=0->∀G w1,Sl G 52 [(1,pN (some ⟨b1,0,none⟩))]->Kp w w1->Cells w1 (aB b1 V B)->GLb tP (Aks 26) k R G w1):GLb tP (Aks 26) (.code clB::k) R a w1:=by
 refine wC (fn:=f26) (S:=λa w1=>aV B=0/\Sl a 52 [(1,pN (some ⟨b1,0,none⟩))]/\Kp w w1/\Cells w1 (aB b1 V B)) (Q:=ClR w B) rfl xD xN L.2.1 xD xD (λa w1 M d h=>⟨h.1,h.2.1,Kp.tp_r.1 h.2.2.1,gX.1 h.2.2.2⟩) (λv F M d h=>h.tp) (λM=>?_) (λG F U h2=>K h2.1 G F h2.2.1 h2.2.2.1 h2.2.2.2) Z;obtain⟨W,H⟩:∃W,W=w1.tp M 0 noJ:=⟨_,rfl⟩;replace A:Kp w W:=by rw[H];exact Kp.tp_r.2 A
 replace hc:Cells W (aB b1 V B):=by rw[H];exact gX.2 hc
 rw[<-H];clear H;have q:=Y.kp A;have y:=lH (c72 V B W q.bk q.var);have I:=lH (Ajb A hc);obtain⟨za,la,ca,pa,zc,lc,cc,pc⟩:=V;obtain⟨q0,q1,q2,q3,q4,q5,q6,-⟩:=hc;obtain⟨t,rfl,U,-⟩:=L.lit;simp only[clB,clS,scB,sqL,sqR,iC,f26,Agx,up,Akz,U];clear q Y L A;by_cases X:aV B=0
 ·have J:=lH X
  go_wp2_with (go_at_call 72;refine y.out.mono ?_;rw[J.out];rintro e u ⟨rfl,D⟩;have Hb:=lH D;clear D)
  exact⟨⟨rfl,rfl,rfl,trivial⟩,I.out.1.trans (Kp.of_below Hb.out),(Kp.of_below Hb.out).cells I.out.2⟩
 have J:=lH X
 go_wp2_with (go_at_call 72;refine y.out.mono ?_;rintro e u ⟨rfl,D⟩;have Hb:=lH D;clear D)
 go_ret2
 have O:qR B=[]:=if_neg λh=>J.out h.1;refine⟨_,rfl,I.out.1.trans (Kp.of_below Hb.out),none,0,by rw[O];rfl,?_⟩;rw[O];exact λi x hx=>by simp at hx
def ac6{b1:Nat}(I:Sl a 52 [(1,pN (some ⟨b1,0,none⟩))])(hc:Cells w1 (aB b1 V B))(K:∀A q (b5:Nat),Sl A 52 [(5,pN (some ⟨b5,0,none⟩)),(1,pN (some ⟨b1,0,none⟩))]->Kp w1 q->Cells q (aB b5 V B)->GLb tP (Aks 26) k R A q):GLb tP (Aks 26) (.code clD::k) R a w1:=by
 refine fP (S:=λa q=>∃b5:Nat,Sl a 52 [(5,pN (some ⟨b5,0,none⟩)),(1,pN (some ⟨b1,0,none⟩))]/\Kp w1 q/\Cells q (aB b5 V B)) ⟨f26,rfl,xD⟩ xN I.2.1 xD xD (λa w1 J d ⟨b5,y,h2,F⟩=>⟨b5,y,Kp.tp_r.1 h2,gX.1 F⟩) (λJ=>?_) λA w1 _ ⟨b5,y,h2,F⟩=>K A w1 b5 y h2 F;obtain⟨W,G⟩:∃W,W=w1.tp J 0 noJ:=⟨_,rfl⟩;have H:Kp w1 W:=by rw[G];exact Kp.tp_r.2 (.refl _)
 replace hc:Cells W (aB b1 V B):=H.cells hc;rw[<-G];clear G;have D:=lH H;obtain⟨za,la,L,pa,zc,lc,cc,pc⟩:=V;obtain⟨M,O,Q,U,X,Y,Z,-⟩:=hc;obtain⟨t,rfl,y,-⟩:=I.lit;simp only[clD,clS,scB,sqL,sqR,iC,f26,Agx,up,Akz,y];clear H;go_wp2;refine⟨W.heap.size,⟨rfl,rfl,rfl,rfl,trivial⟩,?_,?_⟩
 ·first
  |exact Kp.set (D.out.trans (Kp.alloc _ _)) D.out.size _
  |exact D.out.trans (Kp.alloc _ _)
 simp only[aB,Cells,and_true];go_simp
end
end
section
open Go.ChangeMaps (setBlock)
def SlM(a:Act)(N:Nat)(rs:List Nat)(l:List (Nat×vL)):Prop:=a.tmps.size=N/\a.defers=rs.map uN/\SlA a l
section
variable {f:FuncId} {ro:Option Nat} {a:Act} {w:wD} {k:List Item} {ops:Array Oper} {i d N:Nat} {rest:List Nat} {o:Oper} {l:List (Nat×vL)} {rs:List Nat} {E:List Frame->Rl->wD->Goroutine->Prop}
def qU(v:vL)(y:SlM a N rs l)(h:∀A,SlM A N rs ((d,v)::l)->GLe tP (Go.Conc.base f) ro (.inRegion ops rest::k) E A w)(G:eU tP ops i o:=by exact okA rfl)(q:o.dst=some d:=by rfl)(F:d<N:=by decide)(hn:(l.map (·.1)).contains d=false:=by rfl)(hr:∀τ D,(execOp a.eval o).run tP (w.tp τ D noJ)=.ok (.value v) (w.tp τ D noJ):=by intro τ d;have h:=(‹SlM _ _ _ _›).2.2;simp only[SlA]at h;simp[go_sem,h]):GLe tP (Go.Conc.base f) ro (.inRegion ops (i::rest)::k) E a w:=
 OW G xN hr (by rw[q];have p:=dU a (d:=d) v (by rw[y.1];exact F);exact h _ ⟨p.size.trans y.1,p.defers.trans y.2.1,p.same,y.2.2.other p.other hn⟩)
def SlM.tl{x:Nat×vL}(h:SlM a N rs (x::l)):SlM a N rs l:=⟨h.1,h.2.1,h.2.2.2⟩
def Pq{x y:Code}(t:Bool)(e:SlM a N rs ((d,.bool t)::l))(h:GLe tP (Aks f) ro (.code (if t then x else y)::k) E a w):GLe tP (Aks f) ro (.code (.cond (.tmp d) x y)::k) E a w:=
 OT t (by have:=e.2.2.1;simpa using this) h
theorem SlA.same{a':Act}(e:a.tmps=a'.tmps):∀{l:List (Nat×vL)},SlA a l->SlA a' l
 |[],_=>trivial
 |_::_,h=>⟨by rw[<-e];exact h.1,SlA.same e h.2⟩
theorem SlM.lit(h:SlM a N rs l):∃t:Nat->vL,a=⟨(up t N 0).toArray,rs.map uN⟩/\SlT t l:=by have h2:Sl {a with defers:=[]} N l:=⟨h.1,rfl,SlA.same (a:=a) (a':={a with defers:=[]}) rfl h.2.2⟩;obtain⟨t,e,D⟩:=h2.lit;refine⟨t,?_,D⟩;obtain⟨tm,q⟩:=a;have y:tm=(up t N 0).toArray:=congrArg Act.tmps e;have A:q=rs.map uN:=h.2.1;rw[y,A]
theorem Hf:∀(rs:List Nat) (w:wD),(kT w rs).heap.size=w.heap.size/\(kT w rs).os=w.os/\(kT w rs).output=w.output/\∀n,n∉rs->(kT w rs).heap[n]? =w.heap[n]?
 |[],_=>⟨rfl,rfl,rfl,λ_ _=>rfl⟩
 |r::rs,w=>by obtain⟨e,h2,q,h4⟩:=Hf rs (setBlock w r (.deferred none));refine⟨e.trans (by simp[setBlock]),h2,q,λn hn=>?_⟩;rw[Ab3,not_or]at hn;exact(h4 n hn.2).trans (sD w _ hn.1)
def ac7{w0:wD}(e:Kp w0 w)(h:∀r∈rs,w0.heap.size<=r):Kp w0 (kT w rs):=by obtain⟨q,h2,y,h4⟩:=Hf rs w;refine⟨λb A=>(h4 b λD=>?_).trans (e.block b A),by rw[q];exact e.size,h2.trans e.os,y.trans e.output⟩;have:=h b D;omega
def ac8{xs:List Int}(hn:aF w qa xs)(h:∀r∈rs,w.heap[r]? =some (.deferred (some []))):aF (kT w rs) qa xs:=λi x hx=>by
 obtain⟨b,o,e,hc⟩:=hn i x hx;have q:b∉rs:=λy=>by have:=h b y;simp[Aeq,this]at hc
 exact⟨b,o,e,by rw[Ah0 (w:=w) ((Hf rs w).2.2.2 b q)];exact hc⟩
end
structure ClO (w0:wD) (V:BkV) (B:Bk) (b1 b5 b8:Nat) (rs:List Nat) (v8:vL) (w:wD):Prop where
 kp:Kp w0 w
 h1:Cells w (aB b1 V B)
 h5:Cells w (aB b5 V B)
 h8:w.heap[b8]? =some (cL #[v8] 28 (0,0))
 hrs:∀r∈rs,w.heap[r]? =some (.deferred (some []))
 nd:rs.Nodup
 lo:∀r∈rs,w0.heap.size<=r
section
variable {w0 w:wD} {V:BkV} {B:Bk} {b1 b5 b8:Nat} {rs:List Nat}
def ClO.kpu{e:vL}(h:ClO w0 V B b1 b5 b8 rs e w)(k:Kp w u):ClO w0 V B b1 b5 b8 rs e u:=⟨h.kp.trans k,k.cells h.h1,k.cells h.h5,k.obj h.h8,λr q=>k.obj (h.hrs r q),h.nd,h.lo⟩
def Pv{G:List Item}{ks:List Nat}{pc:Nat}(e:ClO w0 V B b1 b5 b8 rs (sL qa ks.length pc) w)(q:SlM a 52 rs [(8,pN (some ⟨b8,0,none⟩))])(hn:aF w qa (nn ks))(y:qR B=ks)(F:aV B=0):
 GLe tP (Aks 26) none (.code (sqR clT)::G) (nV tP (Aks 26) (ClR w0 B)) a w:=by
 have D:=(aX e.h8 0).1;simp only[clT,clS,scB,sqR,iC,f26,Agx];refine nX (qL ?_)
 show GLe _ _ _ (.inRegion _ [0,1,2]::_) _ _ _
 refine qU (sL qa ks.length pc) q (λa1 H=>?_) (hr:=λL d=>by have h:=q.2.2;simp only[SlA]at h;simp[go_sem,h,aT,D]);refine qU (sL qa ks.length pc) H λJ I=>?_;refine qU (iN qi 0) I λK A=>?_;refine qM (ab9 (fn:=f26) rfl A.2.1 e.hrs e.nd (λ_ _=>results_tmp2 rfl _ _ _) ?_);have h:=A.2.2;simp only[SlA]at h;refine⟨ac7 e.kp e.lo,qa,pc,?_,?_⟩
 ·rw[y,F];simp[h]
 rw[y];exact ac8 hn e.hrs
def ac9{j:Nat}(h:j<=B.P.length):pG B j=exts B.P.length j [] 0++pG B (j+1):=by unfold pG;rw[show B.P.length+1-j=(B.P.length+1-(j+1))+1 by omega,List.range'_succ,List.flatMap_cons]
def ada{K:List Item}(hG:GBk w0 V B)(hF:B.Fine)(hA:aV B=0)(aw:B.can B.all=false)(l8:w0.heap.size<=b8)(ai:b5≠b8)(an:b1≠b8):∀(m j:Nat) (rs:List Nat) (a:Act) (w:wD),B.P.length+1-j=m->j<=B.P.length+1->dX B (pG B 0)=dX B (pG B j)->
 SlM a 52 rs [(32,iN qi (j:Int)),(31,iN qi ((B.P.length+1 :Nat):Int)),(1,pN (some ⟨b1,0,none⟩)),(5,pN (some ⟨b5,0,none⟩)),(8,pN (some ⟨b8,0,none⟩))]->ClO w0 V B b1 b5 b8 rs (sL none 0 0) w->
 GLe tP (Aks 26) none (.code clC:: .inLoop clC:: .inBlock 0:: .code (sqR clT)::K) (nV tP (Aks 26) (ClR w0 B)) a w:=λm=>by
 have hk:(Aks 26).kind≠.early:=by intro e;cases e
 have aF:=hF.np;have af:qR B=(dX B (pG B 0)).getD []:=if_pos ⟨hA,aw⟩
 induction m with
 |zero=>
  intro j rs a w hm hj U s1 hO;have ag:j=B.P.length+1:=zP
  subst ag;have hX:GLe tP (Aks 26) none (.code clC:: .inLoop clC:: .inBlock 0:: .code (sqR clT)::K) (nV tP (Aks 26) (ClR w0 B)) a w=GLe tP (Aks 26) none (.code (.seq (sqL clC) (.seq (sqL (sqR clC)) (sqR (sqR clC)))):: .inLoop clC:: .inBlock 0:: .code (sqR clT)::K) (nV tP (Aks 26) (ClR w0 B)) a w:=rfl;rw[hX];refine nX ?_;obtain⟨kq,al⟩:∃kq,kq=(.code (sqR (sqR clC)):: .inLoop clC:: .inBlock 0:: .code (sqR clT)::K:List Item):=⟨_,rfl⟩;obtain⟨kr,F⟩:∃kr,kr=(.code (.seq (sqL (sqR clC)) (sqR (sqR clC))):: .inLoop clC:: .inBlock 0:: .code (sqR clT)::K:List Item):=⟨_,rfl⟩;rw[<-F];simp only[clC,clT,clS,scB,blB,lpB,sqL,sqR,iC,f26,Agx];refine qL ?_
  show GLe _ _ _ (.inRegion _ [0]::_) _ _ _
  refine qU (.bool false) s1 λa2 s2=>?_;subst F;refine qM (nX ?_);rw[<-al];simp only[clC,clT,clS,scB,blB,lpB,sqL,sqR,iC,f26,Agx];refine Pq false s2 ?_;simp only[kF,if_false];subst al;refine OQ rfl ?_;have e0:qR B=[]:=by rw[af,U];simp[pG,dX]
  exact Pv (ks:=[]) hO s2.tl.tl.tl.tl.tl (λi x hx=>by simp at hx) e0 hA
 |succ m ih=>
  intro j rs a w hm hj U s1 hO;have ag:j<=B.P.length:=zP
  have hlt:(j:Int)<((B.P.length+1 :Nat):Int):=zP
  have hX:GLe tP (Aks 26) none (.code clC:: .inLoop clC:: .inBlock 0:: .code (sqR clT)::K) (nV tP (Aks 26) (ClR w0 B)) a w=GLe tP (Aks 26) none (.code (.seq (sqL clC) (.seq (sqL (sqR clC)) (.seq (.block 1 (.seq (sqL clM) (.seq (sqL (sqR clM)) (.block 2 (.rangeFunc (.tmp 39) #[40] sG sH))))) (sqR (sqR (sqR clC)))))):: .inLoop clC:: .inBlock 0:: .code (sqR clT)::K) (nV tP (Aks 26) (ClR w0 B)) a w:=rfl;rw[hX];refine nX ?_;generalize F:(.code (.seq (sqL (sqR clC)) (.seq (.block 1 (.seq (sqL clM) (.seq (sqL (sqR clM)) (.block 2 (.rangeFunc (.tmp 39) #[40] sG sH))))) (sqR (sqR (sqR clC))))):: .inLoop clC:: .inBlock 0:: .code (sqR clT)::K:List Item)=kr;simp only[clC,clT,clS,scB,blB,lpB,sqL,sqR,iC,f26,Agx];refine qL ?_
  show GLe _ _ _ (.inRegion _ [0]::_) _ _ _
  refine qU (.bool true) s1 (λa2 s2=>?_) (hr:=λτ d=>by have h:=s1.2.2;simp only[SlA]at h;simp[go_sem,h];omega);subst F;refine qM (nX ?_);generalize F:(.code (.seq (.block 1 (.seq (sqL clM) (.seq (sqL (sqR clM)) (.block 2 (.rangeFunc (.tmp 39) #[40] sG sH))))) (sqR (sqR (sqR clC)))):: .inLoop clC:: .inBlock 0:: .code (sqR clT)::K:List Item)=kr;simp only[clC,clT,clS,scB,blB,lpB,sqL,sqR,iC,f26,Agx];refine Pq true s2 ?_;simp only[if_true];subst F;refine OO (nX (Gy (nX ?_)));generalize F:(.code (.seq (sqL (sqR clM)) (.block 2 (.rangeFunc (.tmp 39) #[40] sG sH))):: .inBlock 1:: .code (sqR (sqR (sqR clC))):: .inLoop clC:: .inBlock 0:: .code (sqR clT)::K:List Item)=kr;simp only[clM,clC,clT,clS,scB,blB,lpB,sqL,sqR,iC,f26,Agx];refine qL ?_
  show GLe _ _ _ (.inRegion _ [0,1]::_) _ _ _
  have ao:=s2.tl;refine qU (iN qi (j:Int)) ao λa3 s3=>?_;refine qU (iN qi (j:Int)) s3 λa4 s4=>?_;subst F;refine qM (nX ?_);refine ab7 (S:=λa' u=>SlM a' 52 rs [(39,.func (.func 148) #[] #[pN (some ⟨w.heap.size+1,0,none⟩),pN (some ⟨w.heap.size,0,none⟩)]),(32,iN qi (j:Int)),(31,iN qi ((B.P.length+1 :Nat):Int)),(1,pN (some ⟨b1,0,none⟩)),(5,pN (some ⟨b5,0,none⟩)),(8,pN (some ⟨b8,0,none⟩))]/\Kp w u/\u.heap.size=w.heap.size+2/\u.heap[w.heap.size]? =some (cL #[iN qi (B.P.length:Int)] 3 (0,0))/\u.heap[w.heap.size+1]? =some (cL #[iN qi (j:Int)] 3 (0,0))) ⟨f26,rfl,xD⟩ hk xD xD (λa u τ d ⟨h1,h2,h3,h4,h5⟩=>⟨h1,Kp.tp_r.1 h2,by rwa [aP]at h3,by rwa [aP]at h4,by rwa [aP]at h5⟩) (λτ=>?_) λI u _ ⟨s5,ku,zu,yn,ys⟩=>?_
  ·obtain⟨W,hW⟩:∃W,W=w.tp τ 0 noJ:=⟨_,rfl⟩;have L:Kp w W:=by rw[hW];exact Kp.tp_r.2 (.refl _)
   have M:W.heap.size=w.heap.size:=by rw[hW,aP]
   have hc:=L.cells hO.h1;rw[<-hW];clear hW;have HZ:=lH (Ajb L M);have ap:=lH (c98 (B.P.length:Int) (j:Int) W);obtain⟨q0,q1,q2,q3,q4,q5,q6,-⟩:=hc;obtain⟨t,rfl,h9,au,ar,aq,h1,h5,h8,-⟩:=s4.lit;clear L M hO s1 s2 ao s3 s4 ih hX U hm af hG;simp only[clM,clC,clT,clS,scB,blB,lpB,sqL,sqR,iC,f26,Agx,up,Akz,h9,au,ar,aq,h1,h5,h8]
   go_wp2_with (go_at_call 98;refine ap.out.mono ?_;rintro e u ⟨rfl,hu⟩;have Hu:=lH hu;clear hu)
   obtain⟨L,M⟩:=HZ.out;have hu:=Hu.out;subst hu;refine⟨⟨rfl,rfl,by rw[<-M];rfl,rfl,rfl,rfl,rfl,rfl,trivial⟩,(L.trans (Kp.alloc _ _)).trans (Kp.alloc _ _),by simp[M],?_,?_⟩
   ·rw[<-M];exact(Kp.alloc _ _).obj (last_at rfl)
   exact last_at (by simp[M])
  have q:=hO.kpu ku;refine Gy ?_;have aC:=(aS.1 q.h8).1;have ay:=q.kp.size;have X:Kp u (nY u 26 I.tmps):=(Kp.alloc _ _).trans (Kp.alloc _ _);have zF:(nY u 26 I.tmps).heap.size=u.heap.size+2:=by simp[nY]
  have yL:(nY u 26 I.tmps).heap[u.heap.size+1]? =some (.finalizers (gK 0 u.heap.size I.tmps) (some 26)):=last_at yW;have yR:(nY u 26 I.tmps).heap[u.heap.size]? =some (.deferred (some [])):=(Kp.alloc _ _).obj (last_at rfl);have C:ClS w0 V B (u.heap.size+1) u.heap.size b5 b8 I.tmps:=by
   refine⟨hG,hF,zP,l8,zP,λv=>?_,zP⟩;have M:=s5.1;have h:=s5.2.2;simp only[SlA]at h;refine⟨by simp[M],rfl,?_,?_,?_,trivial⟩
   ·simp[h]
   ·simp[h]
   simp[M]
  have ak:I.tmps.getD 39 ud=.func (.func 148) #[] #[pN (some ⟨w.heap.size+1,0,none⟩),pN (some ⟨w.heap.size,0,none⟩)]:=by have h:=s5.2.2;simp only[SlA]at h;simp[h]
  have aA:b8<w.heap.size:=(aS.1 hO.h8).1;refine ab6 (fn:=f148) ak rfl rfl rfl hk qQ ?_;refine(ac2 C (s:=j) zP (q.kp.trans X) yL (X.obj q.h8) (X.cells q.h5) (X.obj ys) (X.obj yn) ai zP zP).mono λv H ⟨c,kx,hM⟩=>?_;have Y:Kp w0 H:=kx.kp (q.kp.trans X) zP l8;have O:∀(b:Nat),b≠b8->Cells u (aB b V B)->Cells H (aB b V B):=λb av hc=>by
   have G:=X.cells hc;have aG:b<u.heap.size:=by simp only[aB,Cells,and_true]at hc;exact wBk u _ hc.1
   have A:∀jj v,(nY u 26 I.tmps).cell? ⟨b,jj,none⟩=some v->H.cell? ⟨b,jj,none⟩=some v:=λjj v hp=>by rw[Ah0 (w:=nY u 26 I.tmps) (kx.block b zP zP av)];exact hp
   simp only[aB,Cells,and_true]at G⊢;exact⟨A _ _ G.1,A _ _ G.2.1,A _ _ G.2.2.1,A _ _ G.2.2.2.1,A _ _ G.2.2.2.2.1,A _ _ G.2.2.2.2.2.1,A _ _ G.2.2.2.2.2.2⟩
  have ad:∀r∈u.heap.size::rs,H.heap[r]? =some (.deferred (some [])):=λr hr=>by
   rcases Ab3.1 hr with rfl|hr
   ·rw[kx.block u.heap.size zP zP zP];exact yR
   have Z:=q.hrs r hr;have hlt:=(aS.1 Z).1;have am:r≠b8:=λe=>by rw[e,q.h8]at Z;cases Z
   rw[kx.block r zP zP am];exact X.obj Z
  have ac:(u.heap.size::rs).Nodup:=List.nodup_cons.2 ⟨λhm=>by have:=(aS.1 (q.hrs _ hm)).1;omega,q.nd⟩;have aa:∀r∈u.heap.size::rs,w0.heap.size<=r:=λr hr=>by
   rcases Ab3.1 hr with rfl|hr
   ·exact ay
   exact q.lo r hr
  have D:∀(x:Obj),(∀b,b≠u.heap.size+1->(setBlock H (u.heap.size+1) x).heap[b]? =H.heap[b]?)/\Kp w0 (setBlock H (u.heap.size+1) x):=λx=>⟨λb hb=>sD H x hb,⟨λb hb=>(sD H x zP).trans (Y.block b hb),by simp[setBlock];exact Y.size,Y.os,Y.output⟩⟩;have Q:∀(x:Obj) (b:Nat),b≠u.heap.size+1->Cells H (aB b V B)->Cells (setBlock H (u.heap.size+1) x) (aB b V B):=λx b hb hc=>by
   have A:∀jj v,H.cell? ⟨b,jj,none⟩=some v->(setBlock H (u.heap.size+1) x).cell? ⟨b,jj,none⟩=some v:=λjj v hp=>by rw[Ah0 (w:=H) ((D x).1 b hb)];exact hp
   simp only[aB,Cells,and_true]at hc⊢;exact⟨A _ _ hc.1,A _ _ hc.2.1,A _ _ hc.2.2.1,A _ _ hc.2.2.2.1,A _ _ hc.2.2.2.2.1,A _ _ hc.2.2.2.2.2.1,A _ _ hc.2.2.2.2.2.2⟩
  have ab:∀b,Cells u (aB b V B)->b<u.heap.size:=λb hc=>by simp only[aB,Cells,and_true]at hc;exact wBk u _ hc.1
  have aD:=ab b1 q.h1;have aE:=ab b5 q.h5;have s6:SlM {tmps:=I.tmps,defers:=uN u.heap.size::I.defers} 52 (u.heap.size::rs) [(39,.func (.func 148) #[] #[pN (some ⟨w.heap.size+1,0,none⟩),pN (some ⟨w.heap.size,0,none⟩)]),(32,iN qi (j:Int)),(31,iN qi ((B.P.length+1 :Nat):Int)),(1,pN (some ⟨b1,0,none⟩)),(5,pN (some ⟨b5,0,none⟩)),(8,pN (some ⟨b8,0,none⟩))]:=⟨s5.1,by rw[s5.2.1];rfl,s5.2.2⟩;have ah:=ac9 ag;have J:dX B (pG B 0)=(dX B (exts B.P.length j [] 0)).or (dX B (pG B (j+1))):=by rw[U,ah,Po]
  cases e3:dX B (exts B.P.length j [] 0)with
  |none=>
   rw[e3]at hM J;obtain⟨_,e4,e5⟩:=hM;refine⟨_,_,gK 3 u.heap.size I.tmps,e4.trans yL,qO qQ 0 _ _,xN,qO qQ 3 _ _,?_⟩;obtain⟨x,hx⟩:∃x,x=Obj.finalizers (gK 3 u.heap.size I.tmps) (some 26):=⟨_,rfl⟩;have ae:ClO w0 V B b1 b5 b8 (u.heap.size::rs) (sL none 0 0) (setBlock H (u.heap.size+1) x):=⟨(D x).2,Q x b1 zP (O b1 an q.h1),Q x b5 zP (O b5 ai q.h5),by rw[(D x).1 b8 zP,e5];exact X.obj q.h8,λr hr=>by
    have Z:=ad r hr;by_cases e:r=u.heap.size+1
    ·subst e
     rcases Ab3.1 hr with h|h
     ·omega
     have:=(aS.1 (q.hrs _ h)).1;omega
    rw[(D x).1 r e];exact Z,ac,aa⟩
   subst hx
   show GLe _ _ _ (.inBlock 2:: .inBlock 1:: .code (sqR (sqR (sqR clC))):: .inLoop clC:: .inBlock 0:: .code (sqR clT)::K) _ _ _
   refine Gw (Gw ?_);generalize F:(.inLoop clC:: .inBlock 0:: .code (sqR clT)::K:List Item)=kr;simp only[clC,clT,clS,scB,blB,lpB,sqL,sqR,iC,f26,Agx];refine qL ?_
   show GLe _ _ _ (.inRegion _ [0,1]::_) _ _ _
   have ax:IntKind.wrap qi ((j:Int)+1)=(j:Int)+1:=IntWalk.i64_in _ zP;refine qU (iN qi ((j:Int)+1)) s6 (λa7 s7=>?_) (hr:=λτ d=>by have h:=s6.2.2;simp only[SlA]at h;simp[go_sem,h,ax]);have az:SlM a7 52 (u.heap.size::rs) [(50,iN qi ((j:Int)+1)),(31,iN qi ((B.P.length+1 :Nat):Int)),(1,pN (some ⟨b1,0,none⟩)),(5,pN (some ⟨b5,0,none⟩)),(8,pN (some ⟨b8,0,none⟩))]:=⟨s7.1,s7.2.1,s7.2.2.1,s7.tl.tl.tl.2.2⟩;refine qU (iN qi ((j+1 :Nat):Int)) az λa8 s8=>?_;subst F;refine qM (abP ?_);exact ih (j+1) (u.heap.size::rs) a8 _ zP zP (by rw[J];rfl) ⟨s8.1,s8.2.1,s8.2.2.1,s8.tl.tl.2.2⟩ ae
  |some ks=>
   rw[e3]at hM J;obtain⟨_,e4,qa,pc,e5,hn,hq⟩:=hM;refine⟨_,_,gK 7 u.heap.size I.tmps,e4,qO qQ 6 _ _,xN,qO qQ 7 _ _,?_⟩;obtain⟨x,hx⟩:∃x,x=Obj.finalizers (gK 7 u.heap.size I.tmps) (some 26):=⟨_,rfl⟩;have ae:ClO w0 V B b1 b5 b8 (u.heap.size::rs) (sL qa ks.length pc) (setBlock H (u.heap.size+1) x):=⟨(D x).2,Q x b1 zP (O b1 an q.h1),Q x b5 zP (O b5 ai q.h5),by rw[(D x).1 b8 zP];exact e5,λr hr=>by
    have Z:=ad r hr;by_cases e:r=u.heap.size+1
    ·subst e
     rcases Ab3.1 hr with h|h
     ·omega
     have:=(aS.1 (q.hrs _ h)).1;omega
    rw[(D x).1 r e];exact Z,ac,aa⟩
   subst hx;refine OQ rfl ?_;refine Pv (ks:=ks) ae s6.tl.tl.tl.tl.tl (λi y hy=>?_) (by rw[af,J];rfl) hA;obtain⟨b,o,e,hc⟩:=hn i y hy;refine⟨b,o,e,?_⟩;have aj:b≠u.heap.size+1:=λh=>by subst h;simp[Aeq,e4]at hc
   rw[Ah0 (w:=H) ((D _).1 b aj)];exact hc
end
end
end Go.Proofs.Y
namespace Go.Tp
open Go.Conc Go.ConcN Go.RowKit
section
variable {P:Program} [Team P] {b:Frame} {R:vL->wD->Prop} {a:Act} {w:wD} {k:List Item}
def adb{c:Code}(h:GLb P b (.code c:: .inScope c::k) R a w):GLb P b (.code (.scope c)::k) R a w:=lW (λ_ _ _ _=>by simp[G,stepG,stepG.exec,Frame.at]) h
def ade{n:Nat}(h:GLb P b k R a w):GLb P b (.code (.label n)::k) R a w:=lW (λ_ _ _ _=>by simp[G,stepG,stepG.exec,Frame.at]) h
end
end Go.Tp
namespace Go.Proofs.Y
open Go.RowKit Go.Tp Go.Meter Go.Conc Go.ConcN
section
variable {w:wD} {V:BkV} {B:Bk}
def clU:Code:=sqR (sqR clS)
def adf{K:List Item}{a:Act}{w1:wD}{b1 b5:Nat}(hG:GBk w V B)(hA:aV B=0)(Q:B.Fine)(hS:Sl a 52 [(5,pN (some ⟨b5,0,none⟩)),(1,pN (some ⟨b1,0,none⟩))])(I:Kp w w1)(c1:Cells w1 (aB b1 V B))(O:Cells w1 (aB b5 V B)):
 GLb tP (Aks 26) (.code clU::K) (ClR w B) a w1:=by
 have hk:(Aks 26).kind≠.early:=by intro e;cases e
 have af:=Q.np;have hX:GLb tP (Aks 26) (.code clU::K) (ClR w B) a w1=GLb tP (Aks 26) (.code (.seq (.seq clE (sqR (sqL clU))) (.seq (sqL (sqR clU)) (.seq (.label 0) (.seq (.seq (sqL (sqL clT)) (.block 0 (.loop clC))) (sqR clT)))))::K) (ClR w B) a w1:=rfl;rw[hX];refine aQ (aQ ?_);refine ac3 hG Q hS I O λa2 F X D _ e7=>?_;have s3:Sl a2 52 [(7,.bool (B.can B.all)),(5,pN (some ⟨b5,0,none⟩)),(1,pN (some ⟨b1,0,none⟩))]:=⟨X.1,X.2.1,e7,X.2.2⟩;generalize G:(.code (.seq (sqL (sqR clU)) (.seq (.label 0) (.seq (.seq (sqL (sqL clT)) (.block 0 (.loop clC))) (sqR clT))))::K:List Item)=kr;simp only[clU,clS,scB,sqL,sqR,iC,f26,Agx];refine aQ (bK ?_)
 show GLb _ _ (.inRegion _ [0]::_) _ _ _
 refine aC (.bool (B.can B.all)) s3 λa3 M=>?_;refine bM (kZ (B.can B.all) M ?_)
 cases q:B.can B.all with
 |true=>
  simp only[if_true];refine aQ (bK ?_)
  show GLb _ _ (.inRegion _ [0,1]::_) _ _ _
  refine aC (sL none 0 0) M λa4 s5=>?_;refine aC (iN qi 0) s5 λa5 s6=>?_;refine bM (NP (fn:=f26) rfl rfl ?_);have h:=s6.2.2;simp only[SlA]at h;have e0:qR B=[]:=if_neg λh=>by rw[q]at h;cases h.2
  refine⟨I.trans D,none,0,by simp[h,e0,hA],?_⟩;rw[e0];exact λi x hx=>by simp at hx
 |false=>
  simp only[kF,if_false];subst G;refine rQ (aQ ?_);have s7:=M.tl.tl;refine fP (S:=λa u=>Sl a 52 [(8,pN (some ⟨F.heap.size,0,none⟩)),(5,pN (some ⟨b5,0,none⟩)),(1,pN (some ⟨b1,0,none⟩))]/\Kp F u/\u.heap[F.heap.size]? =some (cL #[sL none 0 0] 28 (0,0))) ⟨f26,rfl,xD⟩ hk M.2.1 xD xD (λa u Y d ⟨h1,h2,h3⟩=>⟨h1,Kp.tp_r.1 h2,by rwa [aP]at h3⟩) (λY=>?_) λa4 u _ ⟨s8,ku,y8⟩=>?_
  ·obtain⟨W,U⟩:∃W,W=F.tp Y 0 noJ:=⟨_,rfl⟩;have A:Kp F W:=by rw[U];exact Kp.tp_r.2 (.refl _)
   have J:W.heap.size=F.heap.size:=by rw[U,aP]
   rw[<-U];clear U;have HZ:=lH (Ajb A J);obtain⟨t,rfl,h5,h1,-⟩:=s7.lit;clear A J s7 M s3 X e7 hS hX D I Q hG c1 O hA q;simp only[clU,clS,scB,sqL,sqR,iC,f26,Agx,up,Akz,h5,h1];go_wp2;obtain⟨A,J⟩:=HZ.out;exact⟨⟨rfl,rfl,by rw[<-J];rfl,rfl,rfl,trivial⟩,A.trans (Kp.alloc _ _),last_at J.symm⟩
  refine aQ (ade (aQ (aQ ?_)));generalize G:(.code (.block 0 (.loop clC)):: .code (sqR clT)::K:List Item)=kr;have H:=ku.cells (D.cells c1);have Z:u.cell? ⟨b1,6,none⟩=some (sL V.pa B.P.length V.pc):=by
   simp only[aB,Cells,and_true]at H
   grind
  have aa:IntKind.wrap qi ((B.P.length:Int)+1)=(B.P.length:Int)+1:=IntWalk.i64_in _ zP;simp only[clT,clS,scB,sqL,sqR,iC,f26,Agx];refine bK ?_
  show GLb _ _ (.inRegion _ [0,1,2,3,4]::_) _ _ _
  refine aC (pN (some ⟨b1,6,none⟩)) s8 λa5 s9=>?_;refine aC (sL V.pa B.P.length V.pc) s9 (λa6 ab=>?_) (hr:=λY d=>by have h:=s9.2.2;simp only[SlA]at h;simp[go_sem,h,aT,Z]);refine aC (iN qi (B.P.length:Int)) ab λa7 L=>?_;refine aC (iN qi ((B.P.length:Int)+1)) L (λa8 ac=>?_) (hr:=λY d=>by have h:=L.2.2;simp only[SlA]at h;simp[go_sem,h,aa]);refine aC (iN qi 0) ac λa9 y=>?_;subst G;have z2:=(I.trans D).size;have ad:b1<F.heap.size:=by have:=D.cells c1;simp only[aB,Cells,and_true]at this;exact wBk _ _ this.1
  have ae:b5<F.heap.size:=by have:=D.cells O;simp only[aB,Cells,and_true]at this;exact wBk _ _ this.1
  refine bM (FN (NG (abO y.2.1 ?_)));refine ada hG Q hA q z2 zP zP _ 0 [] a9 u rfl (Aih _) rfl ⟨y.1,y.2.1,y.2.2.1,?_,?_,?_,?_,trivial⟩ ⟨(I.trans D).trans ku,H,ku.cells (D.cells O),y8,(λr hr=>by cases hr),.nil,λr hr=>by cases hr⟩
  all_goals
   have h:=y.2.2;simp only[SlA]at h;simp[h]
def adg(y:GBk w V B):bT tP 26 #[V.val B] w (ClR w B):=by
 refine iU (f:=26) (fn:=f26) (x:=iC) rfl rfl ?_
 show GLb _ _ [.code (.seq clA (.scope (.seq clB (.seq clD clU))))] _ _ _
 refine aQ (ac4 λa1 w1 b1 H F c1=>adb (aQ (ac5 y H F c1 (λ_ _ h=>h) λq K M I G e=>aQ ?_)));exact ac6 I e λL O b5 J A D=>adf y q (kK q) J (G.trans A) (A.cells e) D
end
end Go.Proofs.Y
namespace Go.Proofs.Y
open Go.RowKit Go.Tp Go.Meter Go.Conc Go.ConcN Go.Maps
variable {a:Act} {C n0 k b8:Nat} {u w:wD} {n:Int} {R:vL->wD->Prop}
def iD{P:Program}{x y:Code}{Q:Exit->Act->wD->Prop}{S:Act->wD->Prop}(hx:x.wp P (λe a w=>e=.normal/\S a w) a w)(D:∀a w,S a w->y.wp P Q a w):(Code.seq x y).wp P Q a w:=
 wp_seq (Alk hx λe a w ⟨q,A⟩=>by subst q;exact D a w A)
def Hl:Code:=sqL og
def H6:Code:=sqL (sqR og)
def asJ(k:Nat)(b9:Nat)(ta:Option aD)(nT tc i:Nat)(t best:Int)(cnt Bm:Nat)(oa:Option aD)(n cap j:Nat):List (Nat×vL):=
 [(1,iN qi (k:Int)),(9,pN (some ⟨b9,0,none⟩)),(10,.func (.func 89) #[] #[pN (some ⟨b9,0,none⟩)]),(41,sL ta nT tc),(42,iN qi (nT:Int)),(43,iN qi (i:Int)),(11,iN qi (i:Int)),(12,iN qi t),(6,iN qi best),(7,iN qi (cnt:Int)),(13,.map (some Bm)),(53,sL oa n cap),(54,iN qi (n:Int)),(55,iN qi (j:Int))]
section
variable {W:wD} {V:BkV} {B:Bk} {m C:Nat} {k b9 nT tc i cn Bm n cap j:Nat} {ta:Option aD} {t best:Int} {p:Past} {l:List (Int×Int)} {a:Act} {u:wD}
def adh{M:Nat}(Q:Sl a 95 (asJ k b9 ta nT tc i t best cn Bm (some ⟨M,0,none⟩) n cap j))(hj:j<n)(q:∀r x,(bC p)[r]? =some x->u.cell? ⟨M,j*10+r,none⟩=some x):
 Hl.wp tP (λe S u'=>e=.normal/\Sl S 95 ((15,pN (some ⟨u.heap.size,0,none⟩))::asJ k b9 ta nT tc i t best cn Bm (some ⟨M,0,none⟩) n cap j)/\u'=u.alloc (cL (bC p).toArray 132)) a u:=by
 have O:=q 0 _ rfl;have g1:=q 1 _ rfl;have g2:=q 2 _ rfl;have g3:=q 3 _ rfl;have g4:=q 4 _ rfl;have g5:=q 5 _ rfl;have g6:=q 6 _ rfl;have g7:=q 7 _ rfl;have g8:=q 8 _ rfl;have g9:=q 9 _ rfl;simp only[Nat.add_zero]at O;have U:=wBk u _ O;simp only at U;obtain⟨tt,rfl,X,Z,y,G,H,I,A,D,h6,Y,F,J,K,L,-⟩:=Q.lit;simp only[Hl,og,nZ,kW,iL,fG,asT,sqL,sqR,blB,lpB,dI,f24,Agx,up,Akz,X,Z,y,G,H,I,A,D,h6,Y,F,J,K,L];clear Q q
 go_wp2_with fail
 exact⟨xT,rfl⟩
def adi{oa:Option aD}{y:Nat}{g:Int}(Y:Sl a 95 ((15,pN (some ⟨y,0,none⟩))::asJ k b9 ta nT tc i t best cn Bm oa n cap j))(hc:Cells u (cu b9 V B m C))(Z:u.heap[y]? =some (cL (bC p).toArray 132 (0,0)))(A:cF tP 93 #[ctr V B m,iN qi (k:Int),bZ p,iN qi t] u λe G=>e=rT (iN qi g)/\KnP G m (cnt B)/\u.grownBy G (some m)):
 H6.wp tP (λe a' G=>e=.normal/\Sl a' 95 (asL k b9 ta nT tc i t best cn Bm oa n cap j y g)/\KnP G m (cnt B)/\u.grownBy G (some m)) a u:=by
 have q:∀j,u.cell? ⟨y,j,none⟩=(bC p).toArray[j]? :=λj=>by simp[Aeq,Z]
 have g0:=q 0;have g1:=q 1;have g2:=q 2;have g3:=q 3;have g4:=q 4;have g5:=q 5;have g6:=q 6;have g7:=q 7;have g8:=q 8;have g9:=q 9;simp[bC,vT]at g0 g1 g2 g3 g4 g5 g6 g7 g8 g9;obtain⟨za,la,ca,pa,zc,lc,cc,pc⟩:=V;obtain⟨q0,q1,q2,q3,q4,q5,q6,q7,q8,-⟩:=hc;have H1:=lH A;obtain⟨tt,rfl,L,h1,h9,H,M,O,Q,I,J,h6,h7,K,S,U,X,-⟩:=Y.lit;simp only[H6,og,nZ,kW,iL,fG,asT,sqL,sqR,blB,lpB,dI,f24,Agx,up,Akz,L,h1,h9,H,M,O,Q,I,J,h6,h7,K,S,U,X];clear Y q Z A
 go_wp2_with (go_at_call 93;refine H1.out.mono ?_;rintro e u2 ⟨rfl,F,D⟩;have HF:=lH (Ajb F D);clear F D)
 exact⟨xT,HF.out.1,HF.out.2⟩
structure AsW (W:wD) (V:BkV) (B:Bk) (m C k b9:Nat):Prop where
 fine:B.Fine
 hk:k<B.L.length
 at_:aI W V B
 kn:KnP W m (cnt B)
 cells:Cells W (cu b9 V B m C)
 past:∀p∈B.hs k,p.Ok B
def AsW.mlt(h:AsW W V B m C k b9):m<W.heap.size:=h.kn.lt
def AsW.cellsG(h:AsW W V B m C k b9)(q:W.grownBy u (some m)):Cells u (cu b9 V B m C):=h.cells.grown q λj e=>by cases e;exact h.kn.isMap
def AsW.h93(h:AsW W V B m C k b9)(y:W.grownBy u (some m))(A:KnP u m (cnt B))(D:p∈B.hs k)(F:t<=200):cF tP 93 #[ctr V B m,iN qi (k:Int),bZ p,iN qi t] u λe q=>e=rT (iN qi (B.shows k p t))/\KnP q m (cnt B)/\u.grownBy q (some m):=
 c93 V B h.fine m k t p u (h.at_.grown y h.kn.isMap) A (h.past p D) h.hk F
def AsW.h89(h:AsW W V B m C k b9)(q:W.grownBy u (some m))(A:KnP u m (cnt B))(D:p∈B.hs k):cF tP 89 #[bZ p,pN (some ⟨b9,0,none⟩)] u λe y=>e=rT (iN qi (B.count p 200))/\KnP y m (cnt B)/\u.grownBy y (some m):=
 c89 V B h.fine m C b9 p u (h.at_.grown q h.kn.isMap) A (h.cellsG q) (h.past p D)
def Px(A:B.Fine)(F:k<B.L.length)(D:p.Ok B)(I:t<=200):WfI (B.shows k p t):=by
 obtain⟨x,hx,y,q⟩:=A.lineAt F;have L:=BD A D I;have G:=yu q.digits;have H:=D.1;have e:B.shows k p t=(p.start+B.count p t) % numbers x.digits:=by unfold Bk.shows;rw[y]
 have J:=Int.emod_nonneg (p.start+B.count p t) (b:=numbers x.digits) zP;have K:=Int.emod_lt_of_pos (p.start+B.count p t) (b:=numbers x.digits) zP;unfold WfI
 grind [WalkArith.wf_i64]
def adk(q:AsW W V B m C k b9){G:Nat}(hS:Sl a 95 (asJ k b9 ta nT tc i t best cn Bm (some ⟨G,0,none⟩) n cap j))(hj:j<n)(J:∀r x,(bC p)[r]? =some x->W.cell? ⟨G,j*10+r,none⟩=some x)(hk:KnP u m (cnt B))(L:W.grownBy u (some m))(hG:Grp u Bm l)(hm:m<Bm)(F:W.heap.size<=Bm)(hl:l.length<=1000000)(U:p∈B.hs k)(ht:t<=200):
 og.wp tP (λe a' X=>e=.normal/\Sl a' 95 (asJ k b9 ta nT tc i t best cn Bm (some ⟨G,0,none⟩) n cap j)/\KnP X m (cnt B)/\W.grownBy X (some m)/\Grp X Bm (l++[(B.shows k p t,B.count p 200)])) a u:=by
 have e:og=.seq Hl (.seq H6 wO):=xD
 have S:=q.mlt;have K:∀r x,(bC p)[r]? =some x->u.cell? ⟨G,j*10+r,none⟩=some x:=λr x hx=>by have hc:=J r x hx;rw[rJ L (λy e=>by cases e;exact q.kn.isMap) hc]
 rw[e];refine iD (adh hS hj K) λa1 u1 ⟨s1,e1⟩=>?_;subst e1;have A:=bY L (cL (bC p).toArray 132);have O:=hk.alloc (cL (bC p).toArray 132);have D:(u.alloc (cL (bC p).toArray 132)).heap[u.heap.size]? =some (cL (bC p).toArray 132 (0,0)):=last_at rfl;have I:Grp (u.alloc (cL (bC p).toArray 132)) Bm l:=hG.kept (World.grownBy_alloc _ _ none) yW;have ai:m<u.heap.size:=nL S L.size;refine iD (adi s1 (q.cellsG A) D (q.h93 A O U ht)) λa2 u2 ⟨s2,k2,H⟩=>?_;have M:=cZ A H;refine Alk (acS s2 k2 M (I.kept H λy e=>by cases e;exact hm) hm F hl (Px q.fine q.hk (q.past p U) ht) (by rw[H.block _ yW xL];exact D) λx hx Q=>q.h89 hx Q U) λe a3 u3 ⟨h1,h2,h3,h4,h5⟩=>⟨h1,?_,h3,h4,h5⟩;obtain⟨d1,d2,y1,y9,Y,ac,ad,ae,Z,aa,y6,y7,ab,af,ag,ah,_⟩:=h2;exact⟨d1,d2,y1,y9,Y,ac,ad,ae,Z,aa,y6,y7,ab,af,ag,ah,trivial⟩
end
def CO{P:Program}{c:Operand}{id:Nat}{rest:Code}{t:Bool}{Q:Exit->Act->wD->Prop}(hc:a.eval c=.bool t)(h1:t=true->rest.wp P Q a w)(h2:t=false->Q (.exit id) a w):(Code.seq (.cond c .skip (.exit id)) rest).wp P Q a w:=
 wp_seq (wp_cond hc (by
  cases t
  ·exact wp_exit (h2 rfl)
  exact wp_skip (h1 rfl)))
def H7:Code:=sqL kW
def Ia:Code:=sqL nZ
def Ib:Code:=sqR (sqR (sqR nZ))
def asI(k:Nat)(b9:Nat)(ta:Option aD)(nT tc i:Nat)(t best:Int)(cnt Bm:Nat):List (Nat×vL):=
 [(1,iN qi (k:Int)),(9,pN (some ⟨b9,0,none⟩)),(10,.func (.func 89) #[] #[pN (some ⟨b9,0,none⟩)]),(41,sL ta nT tc),(42,iN qi (nT:Int)),(43,iN qi (i:Int)),(11,iN qi (i:Int)),(12,iN qi t),(6,iN qi best),(7,iN qi (cnt:Int)),(13,.map (some Bm))]
section
variable {W:wD} {V:BkV} {B:Bk} {m C:Nat} {k b9 nT tc i cn Bm n cap j:Nat} {ta oa:Option aD} {t best:Int} {p:Past} {l:List (Int×Int)} {a:Act} {u:wD}
def adl(I:Sl a 95 (asI k b9 ta nT tc i t best cn Bm))(X:k<B.L.length)(hc:Cells u (cu b9 V B m C))(O:u.cell? ⟨C,k,none⟩=some (sL oa n cap)):
 H7.wp tP (λe J S=>e=.normal/\Sl J 95 (asJ k b9 ta nT tc i t best cn Bm oa n cap 0)/\S=u) a u:=by
 have Q:(k:Int)<(B.L.length:Int):=zP
 obtain⟨za,la,U,pa,zc,lc,cc,pc⟩:=V;obtain⟨Y,Z,q2,q3,q4,q5,q6,q7,q8,-⟩:=hc;obtain⟨tt,rfl,K,M,q,F,G,H,y,A,h6,L,D,-⟩:=I.lit;simp only[H7,kW,iL,fG,asT,sqL,sqR,blB,lpB,dI,f24,Agx,up,Akz,K,M,q,F,G,H,y,A,h6,L,D];clear I
 go_wp2_with fail
 exact xT
def adn(M:Sl a 95 (asJ k b9 ta nT tc i t best cn Bm oa n cap j)):
 Ia.wp tP (λe L U=>e=.normal/\(Sl L 95 (asJ k b9 ta nT tc i t best cn Bm oa n cap j)/\L.eval (.tmp 56)=.bool (decide (j<n)))/\U=u) a u:=by
 have X:decide ((j:Int)<(n:Int))=decide (j<n):=yW
 obtain⟨Y,rfl,O,S,q,F,G,H,y,A,h6,Q,D,I,J,K,-⟩:=M.lit;simp only[Ia,nZ,kW,iL,fG,asT,sqL,sqR,blB,lpB,dI,f24,Agx,up,Akz,O,S,q,F,G,H,y,A,h6,Q,D,I,J,K];clear M
 go_wp2_with fail
 exact xT
def ado(L:Sl a 95 (asJ k b9 ta nT tc i t best cn Bm oa n cap j))(hn:n<=3000)(X:j<n):
 Ib.wp tP (λe M U=>e=.normal/\Sl M 95 (asJ k b9 ta nT tc i t best cn Bm oa n cap (j+1))/\U=u) a u:=by
 obtain⟨Y,rfl,O,S,q,F,G,H,y,A,h6,Q,D,I,J,K,-⟩:=L.lit;simp only[Ib,nZ,kW,iL,fG,asT,sqL,sqR,blB,lpB,dI,f24,Agx,up,Akz,O,S,q,F,G,H,y,A,h6,Q,D,I,J,K];clear L
 go_wp2_with fail
 exact xT
def ig(B:Bk)(k:Nat)(t:Int):List (Int×Int):=(B.hs k).map λp=>(B.shows k p t,B.count p 200)
def adp(A:AsW W V B m C k b9)(hO:Opened W V B n0 m C)(hS:Sl a 95 (asI k b9 ta nT tc i t best cn Bm))(hk:KnP u m (cnt B))(O:W.grownBy u (some m))(hG:Grp u Bm [])(hm:m<Bm)(G:W.heap.size<=Bm)(ht:t<=200):
 kW.wp tP (λe q D=>e=.normal/\Sl q 95 (asI k b9 ta nT tc i t best cn Bm)/\KnP D m (cnt B)/\W.grownBy D (some m)/\Grp D Bm (ig B k t)) a u:=by
 have e:kW=.seq H7 (.block 2 (.loop nZ)):=xD
 have e2:nZ=.seq Ia (.seq (.cond (.tmp 56) .skip (.exit 2)) (.seq (.block 3 og) Ib)):=xD
 obtain⟨oa,cap,L,M⟩:=hO.hist A.hk;have K:(B.hs k).length<=3000:=qC A.fine A.hk;have F:u.cell? ⟨C,k,none⟩=some (sL oa (B.hs k).length cap):=by rw[rJ O (λy e=>by cases e;exact A.kn.isMap) L]
 rw[e];refine iD (adl hS A.hk (A.cellsG O) F) λa1 u1 ⟨s1,e1⟩=>?_;subst e1;refine Alj (wp_loop (λq x=>∃j,j<=(B.hs k).length/\Sl q 95 (asJ k b9 ta nT tc i t best cn Bm oa (B.hs k).length cap j)/\KnP x m (cnt B)/\W.grownBy x (some m)/\Grp x Bm ((ig B k t).take j)) (λq _=>(B.hs k).length-(intOf (q.tmps[55]?.getD ud)).toNat) ⟨0,Aih _,s1,hk,O,hG⟩ ?_);rintro a2 x ⟨j,hj,s2,kx,gx,H⟩;have y2:a2.tmps[55]?.getD ud=iN qi (j:Int):=s2.2.2.2.2.2.2.2.2.2.2.2.2.2.2.2.1;rw[e2];refine iD (adn s2) λa3 x' ⟨⟨s3,t3⟩,e3⟩=>?_;subst e3;refine CO t3 (λh=>?_) λh=>?_
 ·have hlt:j<(B.hs k).length:=by simpa using h
  obtain⟨ob,eo,_,S⟩:=M j _ (lG hlt);subst eo;have I:((ig B k t).take j).length<=1000000:=by have:=List.length_take_le j (ig B k t);omega
  have J:(Code.block 3 og).wp tP (λe q D=>e=.normal/\(Sl q 95 (asJ k b9 ta nT tc i t best cn Bm (some ⟨ob,0,none⟩) (B.hs k).length cap j)/\KnP D m (cnt B)/\W.grownBy D (some m)/\Grp D Bm ((ig B k t).take j++[(B.shows k (B.hs k)[j] t,B.count (B.hs k)[j] 200)]))) a3 x':=Alj (Alk (adk A s3 hlt S kx gx H hm G I (List.getElem_mem hlt) ht) λe a4 x4 h=>by obtain⟨rfl,h2⟩:=h;exact⟨rfl,h2⟩)
  refine iD J λa4 x4 ⟨s4,k4,g4,G4⟩=>?_;refine Alk (ado s4 K hlt) λe a5 x5 ⟨h1,s5,e5⟩=>?_;subst h1;subst e5;have y5:a5.tmps[55]?.getD ud=iN qi ((j+1 :Nat):Int):=s5.2.2.2.2.2.2.2.2.2.2.2.2.2.2.2.1;refine⟨⟨j+1,hlt,s5,k4,g4,?_⟩,?_⟩
  ·have:(ig B k t).take (j+1)=(ig B k t).take j++[(B.shows k (B.hs k)[j] t,B.count (B.hs k)[j] 200)]:=by
    rw[List.take_add_one];simp[ig,lG hlt]
   rw[this];exact G4
  simp only[y2,y5,intOf];omega
 have Q:j=(B.hs k).length:=by
  have:¬j<(B.hs k).length:=by simpa using h
  omega
 subst Q;have:(ig B k t).take (B.hs k).length=ig B k t:=by
  have e:(ig B k t).length=(B.hs k).length:=by simp[ig]
  rw[<-e,List.take_length]
 rw[this]at H;obtain⟨d1,d2,y1,y9,U,aa,ab,ac,X,Y,y6,y7,Z,_⟩:=s3;exact⟨rfl,⟨d1,d2,y1,y9,U,aa,ab,ac,X,Y,y6,y7,Z,trivial⟩,kx,gx,H⟩
end
def Ic:Code:=sqL kX
def CP:Code:=sqL (sqL (sqR kX))
def uP:Code:=lpB (blB (sqR (sqL (sqR kX))))
def Ie:Code:=sqL uP
def Ig:Code:=blB (sqR (sqR uP))
def Ih:Code:=sqR (sqR kX)
def Py{base:Nat}{e:TypeId}{s n:Nat}{v:vL}{xs:List vL}(h:w.ownsRow base e s v n xs):∃qa pc,v=sL qa n pc:=by
 rcases h.2 with⟨rfl,y⟩|⟨g,cap,q,rfl,_⟩
 ·exact⟨none,0,by rw[y]⟩
 exact⟨_,_,rfl⟩
section
variable {W:wD} {V:BkV} {B:Bk} {m C:Nat} {k b9 nT tc i cn Bm r x cnt:Nat} {ta:Option aD} {t best g:Int} {l:List (Int×Int)} {a:Act} {u:wD} {c:vL}
def adq(I:Sl a 95 (asI k b9 ta nT tc i t best cn Bm)):Ic.wp tP (λe J O=>e=.normal/\Sl J 95 ((17,iN qi ((0 :Nat):Int))::asI k b9 ta nT tc i t best cn Bm)/\O=u) a u:=by
 obtain⟨Q,rfl,K,M,q,F,G,H,y,A,h6,L,D,-⟩:=I.lit;simp only[Ic,kX,iL,fG,asT,sqL,sqR,blB,lpB,dI,f24,Agx,up,Akz,K,M,q,F,G,H,y,A,h6,L,D];clear I
 go_wp2_with fail
 exact xT
def adr(Q:Sl a 95 ((17,iN qi ((0 :Nat):Int))::asI k b9 ta nT tc i t best cn Bm))(O:Grp u Bm l):CP.wp tP (λe X A=>e=.normal/\Sl X 95 ((77,pN (some ⟨u.heap.size,0,none⟩))::(17,iN qi ((0 :Nat):Int))::asI k b9 ta nT tc i t best cn Bm)/\u.grownBy A none/\A.heap.size=u.heap.size+1/\∃cnt,Rng A Bm u.heap.size l 0 cnt) a u:=by
 have U:=lH O;obtain⟨tt,rfl,J,Y,h9,F,K,L,M,G,H,h6,Z,I,-⟩:=Q.lit;simp only[CP,kX,iL,fG,asT,sqL,sqR,blB,lpB,dI,f24,Agx,up,Akz,J,Y,h9,F,K,L,M,G,H,h6,Z,I];clear Q O
 go_wp2_with (at_range;refine acN rfl _ rfl rfl U.out ?_;intro A D S q y;have HF:=lH (Ajb q (Ajb y (Exists.intro D S)));clear S q y)
 exact⟨xT,HF.out⟩
def asM(k:Nat)(b9:Nat)(ta:Option aD)(nT tc i:Nat)(t best:Int)(cnt Bm r x:Nat):List (Nat×vL):=(77,pN (some ⟨r,0,none⟩))::(17,iN qi (x:Int))::asI k b9 ta nT tc i t best cnt Bm
def asS(k:Nat)(b9:Nat)(ta:Option aD)(nT tc i:Nat)(t best:Int)(cn Bm r x cnt:Nat)(l:List (Int×Int))(u:wD)(a':Act)(u':wD):Prop:=((Sl a' 95 ((79,.bool false)::asM k b9 ta nT tc i t best cn Bm r x)/\x=worst l/\u'=u)\/(∃g c e,Sl a' 95 ((79,.bool true)::asM k b9 ta nT tc i t best cn Bm r x)/\u'.ownsRow (Bm+1) 3 1 c (grp l g).length (ints (grp l g))/\(∀v,u'.grownBy v c.ownBlock->Rng v Bm r l (max x (dN (grp l g)).length) e)/\(∀b,c.ownBlock=some b->Bm<b)/\e<cnt/\u.grownBy u' (some r)/\(Instr.entry (pN (some ⟨r,0,none⟩))).run tP u'=.ok (.tuple #[iN qi g,c]) u'))
def ads(Q:Sl a 95 (asM k b9 ta nT tc i t best cn Bm r x))(O:Rng u Bm r l x cnt)(M:∀y∈l,WfI y.1):
 Ie.wp tP (λe a' u'=>e=.normal/\asS k b9 ta nT tc i t best cn Bm r x cnt l u a' u') a u:=by
 have HR:=lH O;obtain⟨tt,rfl,L,H,h1,h9,A,I,J,K,D,F,h6,h7,G,-⟩:=Q.lit;simp only[Ie,uP,kX,iL,fG,asT,sqL,sqR,blB,lpB,dI,f24,Agx,up,Akz,L,H,h1,h9,A,I,J,K,D,F,h6,h7,G];clear Q O
 go_wp2_with (at_next;refine acO rfl _ rfl rfl HR.out M ?_ ?_)
 ·intro hx
  go_wp2_with fail
  exact .inl ⟨xT,(by first|rfl|exact hx),rfl⟩
 intro g c w' q S U X Y Z _ k6;have HF:=lH (Ajb S (Ajb U (Ajb X (Ajb Y (Ajb Z k6)))));clear S U X Y Z k6
 go_wp2_with fail
 exact .inr ⟨g,c,q,xT,HF.out⟩
def adt(O:Sl a 95 (asM k b9 ta nT tc i t best cn Bm r x)){xs:List Int}{base:Nat}(q:u.ownsRow base 3 1 c xs.length (ints xs))(Q:xs.length<=1000000)(aa:(Instr.entry (pN (some ⟨r,0,none⟩))).run tP u=.ok (.tuple #[iN qi g,c]) u):
 Ig.wp tP (λe Y u'=>e=.normal/\Sl Y 95 (asM k b9 ta nT tc i t best cn Bm r (max x (dN xs).length))/\u.grownBy u' c.ownBlock) a u:=by
 have HL:Hid ((dN xs).length<=1000000):=lH (Nat.le_trans (FM _) (by simpa using Q));have U:=lH (c91 xs base c u q Q);have A:((max x (dN xs).length:Nat):Int)=max (x:Int) ((dN xs).length:Int):=zP
 have X:=lH A;generalize (dN xs)=ys at*;obtain⟨tt,rfl,M,I,Z,h9,D,J,K,L,F,G,h6,h7,H,-⟩:=O.lit;simp only[Ig,uP,kX,iL,fG,asT,sqL,sqR,blB,lpB,dI,f24,Agx,up,Akz,M,I,Z,h9,D,J,K,L,F,G,h6,h7,H];clear O q A
 go_wp2_with (go_at_call 91;refine U.out.mono ?_;rintro e u2 ⟨v,rfl,S,y⟩;obtain⟨qa,pc,hv⟩:=Py S;subst hv;have HF:=lH y;clear S y)
 refine⟨⟨rfl,rfl,rfl,?_,rfl,rfl,rfl,rfl,rfl,rfl,rfl,rfl,rfl,rfl,rfl,trivial⟩,HF.out⟩;rw[X.out];rfl
def adu(J:Sl a 95 ((17,iN qi (x:Int))::asI k b9 ta nT tc i t best cn Bm)):
 Ih.wp tP (λe K S=>e=.normal/\Sl K 95 (asI k b9 ta nT tc i t (if x<cn then(i:Int)else best) (if x<cn then x else cn) Bm)/\S=u) a u:=by
 obtain⟨U,rfl,F,M,Q,q,G,H,I,y,A,h6,O,D,-⟩:=J.lit;simp only[Ih,kX,iL,fG,asT,sqL,sqR,blB,lpB,dI,f24,Agx,up,Akz,F,M,Q,q,G,H,I,y,A,h6,O,D];clear J;by_cases h:x<cn
 ·have L:(x:Int)<(cn:Int):=zP
  simp only[if_pos h]
  go_wp2_with fail
  exact xT
 have L:¬(x:Int)<(cn:Int):=zP
 simp only[if_neg h]
 go_wp2_with fail
 exact xT
end
section
variable {W:wD} {V:BkV} {B:Bk} {m C:Nat} {k b9 nT tc i cn Bm:Nat} {ta:Option aD} {t best:Int} {l:List (Int×Int)} {a:Act} {u:wD}
def adv(hW:AsW W V B m C k b9)(hS:Sl a 95 (asI k b9 ta nT tc i t best cn Bm))(hk:KnP u m (cnt B))(hg:W.grownBy u (some m))(hG:Grp u Bm l)(hm:m<Bm)(ab:W.heap.size<=Bm)(Z:∀y∈l,WfI y.1)(hl:l.length<=1000000):
 kX.wp tP (λe D J=>e=.normal/\Sl D 95 (asI k b9 ta nT tc i t (if worst l<cn then(i:Int)else best) (if worst l<cn then worst l else cn) Bm)/\KnP J m (cnt B)/\W.grownBy J (some m)) a u:=by
 have e:kX=.seq Ic (.seq (.seq CP (.block 4 (.loop uP))) Ih):=xD
 have e4:uP=.seq Ie (.seq (.cond (.tmp 79) .skip (.exit 4)) (.block 5 Ig)):=xD
 have ad:=hW.mlt;rw[e];refine iD (adq hS) λa1 u1 ⟨s1,e1⟩=>?_;subst e1;have q:(Code.seq CP (.block 4 (.loop uP))).wp tP (λe D J=>e=.normal/\(Sl D 95 ((17,iN qi (worst l:Int))::asI k b9 ta nT tc i t best cn Bm)/\KnP J m (cnt B)/\W.grownBy J (some m))) a1 u1:=by
  refine iD (adr s1 hG) λa2 u2 ⟨L,K,z2,G,r2⟩=>?_;obtain⟨r,hr⟩:∃r,u1.heap.size=r:=⟨_,rfl⟩;rw[hr]at L r2;have S:W.heap.size<=r:=by rw[<-hr];exact hg.size
  refine Alj (wp_loop (λD y=>∃x c,Sl D 95 (asM k b9 ta nT tc i t best cn Bm r x)/\KnP y m (cnt B)/\W.grownBy y (some m)/\Rng y Bm r l x c) (λ_ y=>y.rangeLeft Bm r) ⟨0,G,L,hk.kept K yW,rP hg K (λj e=>by cases e),r2⟩ ?_);rintro a3 y ⟨x,c0,s3,ky,gy,ry⟩;rw[e4];refine iD (ads s3 ry Z) λa4 y' h4=>?_
  rcases h4 with⟨s4,hx,e5⟩|⟨g,c,F,s4,ho,hR,I,hlt,gr,U⟩
  ·subst e5;obtain⟨M,O,A,_,aa,yL⟩:=s4;refine CO (t:=false) (by rw[ev];exact A) (λh=>by cases h) λ_=>?_;exact⟨rfl,⟨M,O,by rw[<-hx];exact aa,yL⟩,ky,gy⟩
  obtain⟨M,O,A,yM⟩:=s4;refine CO (t:=true) (by rw[ev];exact A) (λ_=>?_) λh=>by cases h
  have Y:=ky.kept gr (λe=>by cases e;omega);have X:=rP gy gr (λj e=>by cases e;exact S);have ac:=Pg l g;refine Alj (Alk (adt ⟨M,O,yM⟩ ho zP U) λe a6 y6 h=>?_);obtain⟨rfl,s6,Q⟩:=h;have H:=hR y6 Q;refine⟨⟨_,F,s6,Y.kept Q (λe=>by have:=I m e.symm;omega),rP X Q (λj e=>by have:=I j e;omega),H⟩,?_⟩;simp only[H.left,ry.left];exact hlt
 refine iD q λa2 u2 ⟨L,k2,K⟩=>?_;exact Alk (adu L) λe a3 u3 h=>by obtain⟨rfl,s3,rfl⟩:=h;exact⟨rfl,s3,k2,K⟩
end
def as6:Code:=sqL (sqL asT)
def as7:Code:=sqL fG
def as8:Code:=sqL iL
def as9:Code:=sqL (sqR iL)
def as23:Code:=sqR (sqR (sqR fG))
def Pz:Code:=sqR asT
def dw(B:Bk)(k:Nat)(T:List Int):Nat->Int×Nat
 |0=>(-1,(dN ((B.hs k).map λp=>B.count p 200)).length)
 |j+1=>if worst (ig B k (T.getD j 0))<(dw B k T j).2 then((j:Int),worst (ig B k (T.getD j 0)))else dw B k T j
def asO(k:Nat)(b9:Nat)(ta:Option aD)(nT tc i:Nat)(best:Int)(cnt:Nat):List (Nat×vL):=
 [(1,iN qi (k:Int)),(9,pN (some ⟨b9,0,none⟩)),(10,.func (.func 89) #[] #[pN (some ⟨b9,0,none⟩)]),(41,sL ta nT tc),(42,iN qi (nT:Int)),(43,iN qi (i:Int)),(6,iN qi best),(7,iN qi (cnt:Int))]
section
variable {W:wD} {V:BkV} {B:Bk} {m C:Nat} {k b9 nT tc i cn Bm:Nat} {ta:Option aD} {t best:Int} {a:Act} {u:wD}
def adw(y:Sl a 95 [(1,iN qi (k:Int)),(2,sL ta nT tc),(9,pN (some ⟨b9,0,none⟩)),(10,.func (.func 89) #[] #[pN (some ⟨b9,0,none⟩)]),(6,iN qi best),(7,iN qi (cn:Int))]):
 as6.wp tP (λe A H=>e=.normal/\Sl A 95 (asO k b9 ta nT tc 0 best cn)/\H=u) a u:=by
 obtain⟨I,rfl,D,h2,G,q,h6,F,-⟩:=y.lit;simp only[as6,asT,sqL,sqR,dI,f24,Agx,up,Akz,D,h2,G,q,h6,F];clear y
 go_wp2_with fail
 exact xT
def adx(F:Sl a 95 (asO k b9 ta nT tc i best cn)):
 as7.wp tP (λe G K=>e=.normal/\Sl G 95 ((44,.bool (decide ((i:Int)<(nT:Int))))::asO k b9 ta nT tc i best cn)/\K=u) a u:=by
 obtain⟨L,rfl,H,J,q,y,A,D,h6,I,-⟩:=F.lit;simp only[as7,fG,asT,sqL,sqR,blB,lpB,dI,f24,Agx,up,Akz,H,J,q,y,A,D,h6,I];clear F
 go_wp2_with fail
 exact xT
def ady{b o:Nat}(F:Sl a 95 (asO k b9 (some ⟨b,o,none⟩) nT tc i best cn))(M:(i:Int)<(nT:Int))(hc:u.cell? ⟨b,o+i,none⟩=some (iN qi t)):
 as8.wp tP (λe G L=>e=.normal/\Sl G 95 ((11,iN qi (i:Int))::(12,iN qi t)::asO k b9 (some ⟨b,o,none⟩) nT tc i best cn)/\L=u) a u:=by
 have H:=wBk u _ hc;simp only at H;obtain⟨O,rfl,I,K,q,y,A,D,h6,J,-⟩:=F.lit;simp only[as8,iL,fG,asT,sqL,sqR,blB,lpB,dI,f24,Agx,up,Akz,I,K,q,y,A,D,h6,J];clear F
 go_wp2_with fail
 exact xT
def adz(H:Sl a 95 ((11,iN qi (i:Int))::(12,iN qi t)::asO k b9 ta nT tc i best cn)):
 as9.wp tP (λe I O=>e=.normal/\Sl I 95 (asI k b9 ta nT tc i t best cn u.heap.size)/\O=u.alloc (.map #[] 0)) a u:=by
 have M:= @run_makeMap tP;obtain⟨Q,rfl,y,A,J,L,q,D,F,G,h6,K,-⟩:=H.lit;simp only[as9,iL,fG,asT,sqL,sqR,blB,lpB,dI,f24,Agx,up,Akz,y,A,J,L,q,D,F,G,h6,K];clear H
 go_wp2_with fail
 exact xT
def adA(F:Sl a 95 (asO k b9 ta nT tc i best cn))(L:i<1000000):
 as23.wp tP (λe G K=>e=.normal/\Sl G 95 (asO k b9 ta nT tc (i+1) best cn)/\K=u) a u:=by
 obtain⟨M,rfl,H,J,q,y,A,D,h6,I,-⟩:=F.lit;simp only[as23,fG,asT,sqL,sqR,blB,lpB,dI,f24,Agx,up,Akz,H,J,q,y,A,D,h6,I];clear F
 go_wp2_with fail
 exact xT
def adB{T:List Int}(q:AsW W V B m C k b9)(hO:Opened W V B n0 m C)(hT:aF W ta T)(ae:T.length<=4)(O:∀j,j<T.length->T.getD j 0<=200)(hS:Sl a 95 (asO k b9 ta T.length tc 0 (dw B k T 0).1 (dw B k T 0).2))(hk:KnP u m (cnt B))(hg:W.grownBy u (some m)):
 (Code.block 0 (.loop fG)).wp tP (λe A H=>e=.normal/\Sl A 95 (asO k b9 ta T.length tc T.length (dw B k T T.length).1 (dw B k T T.length).2)/\KnP H m (cnt B)/\W.grownBy H (some m)) a u:=by
 have e0:fG=.seq as7 (.seq (.cond (.tmp 44) .skip (.exit 0)) (.seq (.block 1 (.seq as8 (.seq as9 (.seq kW kX)))) as23)):=xD
 have S:=q.mlt;have af:(B.hs k).length<=3000:=qC q.fine q.hk;refine Alj (wp_loop (λA y=>∃j,j<=T.length/\Sl A 95 (asO k b9 ta T.length tc j (dw B k T j).1 (dw B k T j).2)/\KnP y m (cnt B)/\W.grownBy y (some m)) (λA _=>T.length-(intOf (A.tmps[43]?.getD ud)).toNat) ⟨0,Aih _,hS,hk,hg⟩ ?_);rintro a2 x ⟨j,hj,s2,kx,D⟩;have y2:a2.tmps[43]?.getD ud=iN qi (j:Int):=s2.2.2.2.2.2.2.2.1;rw[e0];refine iD (adx s2) λa3 x' ⟨s3,e3⟩=>?_;subst e3;obtain⟨I,J,ad,yO⟩:=s3;refine CO (t:=decide ((j:Int)<(T.length:Int))) (by rw[ev];exact ad) (λh=>?_) λh=>?_
 ·have hlt:j<T.length:=by simpa using h
  have hb:(Code.block 1 (.seq as8 (.seq as9 (.seq kW kX)))).wp tP (λe A H=>e=.normal/\(Sl A 95 (asO k b9 ta T.length tc j (dw B k T (j+1)).1 (dw B k T (j+1)).2)/\KnP H m (cnt B)/\W.grownBy H (some m))) a3 x':=by
   refine Alj ?_;obtain⟨b,o,eT,cT⟩:=hT j _ (lG hlt);have F:T.getD j 0=T[j]:=by simp[List.getD,lG hlt]
   have ht:T[j]<=200:=by rw[<-F];exact O j hlt
   subst eT;have L:x'.cell? ⟨b,o+j,none⟩=some (iN qi T[j]):=by rw[rJ D (λy e=>by cases e;exact q.kn.isMap) cT]
   refine iD (ady ⟨I,J,yO⟩ zP L) λa4 Y ⟨X,e4⟩=>?_;subst e4;refine iD (adz X) λa5 x5 ⟨K,M⟩=>?_;subst M;have G:m<Y.heap.size:=nL S D.size;refine iD (adp q hO K (kx.alloc _) (bY D _) (acL Y) G D.size ht) λa6 x6 ⟨s6,k6,g6,G6⟩=>?_;refine Alk (adv q s6 k6 g6 G6 G D.size (λy hy=>?_) (by simp[ig];omega)) λe a7 x7 h=>?_
   ·obtain⟨p,hp,rfl⟩:=List.mem_map.1 hy;exact Px q.fine q.hk (q.past p hp) ht
   obtain⟨rfl,s7,k7,g7⟩:=h;have U:((if worst (ig B k T[j])<(dw B k T j).2 then((j:Nat):Int)else(dw B k T j).1),(if worst (ig B k T[j])<(dw B k T j).2 then worst (ig B k T[j])else(dw B k T j).2))=dw B k T (j+1):=by
    show _=if worst (ig B k (T.getD j 0))<(dw B k T j).2 then((j:Int),worst (ig B k (T.getD j 0)))else dw B k T j
    rw[F]
    split<;>rfl
   rw[<-U];obtain⟨I,J,y1,y9,Z,aa,ab,ac,_,_,y6,y7,_⟩:=s7;exact⟨rfl,⟨I,J,y1,y9,Z,aa,ab,ac,y6,y7,trivial⟩,k7,g7⟩
  refine iD hb λa4 Y ⟨X,k4,g4⟩=>?_;refine Alk (adA X zP) λe a5 x5 ⟨h1,K,M⟩=>?_;subst h1;subst M;have y5:a5.tmps[43]?.getD ud=iN qi ((j+1 :Nat):Int):=K.2.2.2.2.2.2.2.1;refine⟨⟨j+1,hlt,K,k4,g4⟩,?_⟩;simp only[y2,y5,intOf];omega
 have hn:¬(j:Int)<(T.length:Int):=by simpa using h
 have Q:j=T.length:=zP
 subst Q;exact⟨rfl,⟨I,J,yO⟩,kx,D⟩
end
section
variable {w:wD} {V:BkV} {B:Bk} {ta:Option aD} {T:List Int} {tc:Nat}
def aqA:Code:=sqL dI
def aqE:Code:=sqL (sqR dI)
def aqF:Code:=sqR (sqR dI)
def adC{k:List Item}(K:∀q w1 (b3:Nat),Sl q 95 [(3,pN (some ⟨b3,0,none⟩)),(1,iN qi n),(2,sL ta T.length tc)]->Kp w w1->Cells w1 (aB b3 V B)->GLb tP (Aks 24) k R q w1):
 GLb tP (Aks 24) (.code aqA::k) R {tmps:=#[V.val B,iN qi n,sL ta T.length tc]++Afc (f24.ntmps-3) ud,defers:=[]} w:=by
 refine fP (S:=λa w1=>∃b3:Nat,Sl a 95 [(3,pN (some ⟨b3,0,none⟩)),(1,iN qi n),(2,sL ta T.length tc)]/\Kp w w1/\Cells w1 (aB b3 V B)) ⟨f24,rfl,xD⟩ xN rfl xD xD (λa w1 F d ⟨b3,y,h2,A⟩=>⟨b3,y,Kp.tp_r.1 h2,gX.1 A⟩) (λF=>?_) λq w1 _ ⟨b3,y,h2,A⟩=>K q w1 b3 y h2 A;obtain⟨W,D⟩:∃W,W=w.tp F 0 noJ:=⟨_,rfl⟩;have G:Kp w W:=by rw[D];exact Kp.tp_r.2 (.refl _)
 rw[<-D];clear D;obtain⟨za,la,H,pa,zc,lc,cc,pc⟩:=V;simp only[aqA,sqL,dI,f24,Agx,Ags,Agt,Akx,Akw,Akp,Akn,Nat.reduceSub];go_wp2;refine⟨W.heap.size,xT,?_,?_⟩
 ·iterate 1 refine Kp.trans ?_ (Kp.alloc _ _)
  exact G
 simp only[aB,Cells,and_true];go_simp
def adD:List Nat:=[4,5,6,7,8,9,10,0,0,1,2,3,2,2]
def adE{k:List Item}{w1:wD}{b3:Nat}(hT:aF w1 ta T)(hG:GBk w V B)(hS:Sl a 95 [(3,pN (some ⟨b3,0,none⟩)),(1,iN qi n),(2,sL ta T.length tc)])(Y:Kp w w1)(hc:Cells w1 (aB b3 V B))(K:∀Q G,Sl Q 95 [(3,pN (some ⟨b3,0,none⟩)),(1,iN qi n),(2,sL ta T.length tc)]->Kp w1 G->Q.tmps[8]?.getD ud=iN qi (aA B (btw n 0 ((B.L.length:Int)-1)) (aW T))->fQ w.heap.size w1.heap.size V B (aA B (btw n 0 ((B.L.length:Int)-1)) (aW T)) (Q.tmps[9]?.getD ud) G->GLb tP (Aks 24) k R Q G):GLb tP (Aks 24) (.code aqE::k) R a w1:=by
 have X:(Aks 24).kind≠.early:=by intro e;cases e
 have ad:=hG.bk.nl;simp only[aqE,sqL,sqR,dI,f24,Agx];refine uH rfl hS [[],[],[1],[],[2,3],[],[5,4],[0,4,6],[7],[8],[8],[],[11,9,7,0,1,2,3,4,5,6,8],[10,12,0,1,2,3,4,5,6,7,8,9,11]] ([some 21,some 22,some 23,some 24,some 25,some 26,some 27,some 28,some 20,some 29,some 30,some 9,none,some 8]:List (Option Nat)) (λi v u=>aN w.heap.size w1.heap.size V B (aA B (btw n 0 ((B.L.length:Int)-1)) (aW T)) [(V.val B:vL),(V.val B:vL),(V.val B:vL),(iN qi n:vL),(.bool (btw n 0 ((B.L.length:Int)-1)):vL),(sL ta T.length tc:vL),(iN qi (aW T):vL)] v u (adD.getD i 0)) 12 11 (fQ w.heap.size w1.heap.size V B (aA B (btw n 0 ((B.L.length:Int)-1)) (aW T))) xD xD (ks:=[3,1,2]) rfl xD zE zE ⟨zE,zE⟩ rfl ?_ ?_ λQ G J h2 Z h4=>K Q G J h2 (Z 13 zE zE) h4
 ·intro fd a1 G i rest U S A D hi F I K;obtain⟨_,_,s3,s1,s2,_⟩:=S;have ab:=A.cells hc;obtain⟨q0,q1,q2,q3,q4,q5,q6,-⟩:=ab;have aa:=hG.kp (Y.trans A);have ac:=(Y.trans A).size
  match i,hi with
  |0,_=>exact kpk (V.val B) (okA rfl) (λH d=>by simp[go_sem,aT,s3,q0,q1,q2,q3,q4,q5,q6]) rfl A K
  |1,_=>exact kpk (V.val B) (okA rfl) (λH d=>by simp[go_sem,aT,s3,q0,q1,q2,q3,q4,q5,q6]) rfl A K
  |2,_=>have v1:a1.tmps[22]?.getD ud=V.val B:=D 1 zE zE (F 1 zE);exact kpk (V.val B) (okA rfl) (λH d=>by simp[go_sem,v1]) rfl A K
  |3,_=>exact kpk (iN qi n) (okA rfl) (λH d=>by simp[go_sem,s1]) rfl A K
  |4,_=>
   have v2:a1.tmps[23]?.getD ud=V.val B:=D 2 zE zE (F 2 zE);have v3:a1.tmps[24]?.getD ud=iN qi n:=D 3 zE zE (F 3 zE);refine iW (Ri:=λv _=>v=.bool (btw n 0 ((B.L.length:Int)-1))) (f:=82) (fn:=f82) rfl rfl rfl rfl rfl rfl X rfl xD (λ_ _ _ _ h=>h) (λH=>?_) (λu M=>⟨λj _ _ _ _ h=>h.kp M,λL=>absurd rfl (I L 4 zE)⟩) A K;have e:(#[Ak0 23,.tmp 24]:Array Operand).map a1.eval=#[V.val B,iN qi n]:=by simp[Ahq,v2,v3]
   rw[e];exact(c82 V B n (G.tp H 0 noJ) ad).mono λe w' ⟨J,h2⟩=>⟨_,J,Kp.below_tp h2,rfl⟩
  |5,_=>exact kpk (sL ta T.length tc) (okA rfl) (λH d=>by simp[go_sem,s2]) rfl A K
  |6,_=>
   have v5:a1.tmps[26]?.getD ud=sL ta T.length tc:=D 5 zE zE (F 5 zE);refine iW (Ri:=λv _=>v=iN qi (aW T)) (f:=87) (fn:=f87) rfl rfl rfl rfl rfl rfl X rfl xD (λ_ _ _ _ h=>h) (λH=>?_) (λu M=>⟨λj _ _ _ _ h=>h.kp M,λL=>absurd rfl (I L 6 zE)⟩) A K;have e:(#[Ak0 26]:Array Operand).map a1.eval=#[sL ta T.length tc]:=by simp[Ahq,v5]
   rw[e];exact(c87 T ta tc (G.tp H 0 noJ) (aF.tp.2 (hT.kp A))).mono λe w' ⟨J,h2⟩=>⟨_,J,Kp.below_tp h2,rfl⟩
  |7,_=>
   have v0:a1.tmps[21]?.getD ud=V.val B:=D 0 zE zE (F 0 zE);have v4:a1.tmps[25]?.getD ud=.bool (btw n 0 ((B.L.length:Int)-1)):=D 4 zE zE (F 4 zE);have v6:a1.tmps[27]?.getD ud=iN qi (aW T):=D 6 zE zE (F 6 zE);refine o8 (Ri:=λv u=>aN w.heap.size w1.heap.size V B (aA B (btw n 0 ((B.L.length:Int)-1)) (aW T)) [(V.val B:vL),(V.val B:vL),(V.val B:vL),(iN qi n:vL),(.bool (btw n 0 ((B.L.length:Int)-1)):vL),(sL ta T.length tc:vL),(iN qi (aW T):vL)] v u 0) (f:=81) (fn:=f81) rfl rfl rfl rfl rfl rfl X rfl xD ?_ (λu M=>⟨λj _ _ _ _ h=>h.kp M,λL=>absurd rfl (I L 7 zE)⟩) A K;have e:(#[Ak0 21,.tmp 25,.tmp 27]:Array Operand).map a1.eval=#[V.val B,.bool (btw n 0 ((B.L.length:Int)-1)),iN qi (aW T)]:=by simp[Ahq,v0,v4,v6]
   rw[e];exact uI aa _ _ ac
  |8,_=>have v7:aN w.heap.size w1.heap.size V B (aA B (btw n 0 ((B.L.length:Int)-1)) (aW T)) [] (a1.tmps[28]?.getD ud) G 0:=D 7 zE zE (F 7 zE);exact kpk (a1.tmps[28]?.getD ud) (okA rfl) (λH d=>by simp[go_sem]) v7 A K
  |9,_=>have v8:aN w.heap.size w1.heap.size V B (aA B (btw n 0 ((B.L.length:Int)-1)) (aW T)) [] (a1.tmps[20]?.getD ud) G 0:=D 8 zE zE (F 8 zE);obtain⟨y,y1,y2⟩:=v8;exact kpk y (okA rfl) (λH d=>by simp[go_sem,y1]) y2 A K
  |10,_=>have v8:aN w.heap.size w1.heap.size V B (aA B (btw n 0 ((B.L.length:Int)-1)) (aW T)) [] (a1.tmps[20]?.getD ud) G 0:=D 8 zE zE (F 8 zE);obtain⟨y,y1,y2⟩:=v8;exact kpk (iN qi (aA B (btw n 0 ((B.L.length:Int)-1)) (aW T))) (okA rfl) (λH d=>by simp[go_sem,y1]) rfl A K
  |11,_=>
   refine rV (pN (some ⟨G.heap.size,0,none⟩)) (cL #[iN qi 0,iN qi 0,iN qi 0,sL none 0 0,sL none 0 0,sL none 0 0,sL none 0 0,.map none,sL none 0 0] 118) (okA rfl) X rfl (λH d=>?_) (λu M=>⟨λj _ _ _ _ h=>h.kp M,λL=>absurd rfl (I L 11 zE)⟩) A ⟨G.heap.size,_,rfl,A.size,last_at rfl,rfl⟩ K λe=>by cases e
   simp[go_sem];rw[aP]
  |13,_=>have O:aN w.heap.size w1.heap.size V B (aA B (btw n 0 ((B.L.length:Int)-1)) (aW T)) [] (a1.tmps[30]?.getD ud) G 2:=D 10 zE zE (F 10 zE);replace O:a1.tmps[30]?.getD ud=iN qi (aA B (btw n 0 ((B.L.length:Int)-1)) (aW T)):=O;exact kpk (iN qi (aA B (btw n 0 ((B.L.length:Int)-1)) (aW T))) (okA rfl) (λH d=>by simp[go_sem,O]) rfl A K
  |12,_=>exact absurd rfl U
 intro fd a1 G rest S A D F K;have v3:aN w.heap.size w1.heap.size V B (aA B (btw n 0 ((B.L.length:Int)-1)) (aW T)) [(V.val B:vL),(V.val B:vL),(V.val B:vL),(iN qi n:vL),(.bool (btw n 0 ((B.L.length:Int)-1)):vL),(sL ta T.length tc:vL),(iN qi (aW T):vL)] (a1.tmps[9]?.getD ud) G 3:=D 11 zE zE (F 11 zE);have v1:aN w.heap.size w1.heap.size V B (aA B (btw n 0 ((B.L.length:Int)-1)) (aW T)) [(V.val B:vL),(V.val B:vL),(V.val B:vL),(iN qi n:vL),(.bool (btw n 0 ((B.L.length:Int)-1)):vL),(sL ta T.length tc:vL),(iN qi (aW T):vL)] (a1.tmps[29]?.getD ud) G 1:=D 9 zE zE (F 9 zE);refine uJ (p:=9) (q:=29) (okA rfl) rfl X rfl (hG.kp Y) A v3 v1 λw3 J h2 Z=>K w3 J (λj _ _ _ h=>h2 _ _ h) Z
def sK(B:Bk)(n:Int)(T:List Int):Int×Int:=if gJ B n T=0 then((dw B n.toNat T T.length).1,((dw B n.toNat T T.length).2:Int))else(0,0)
def ou(w0:wD)(B:Bk)(n:Int)(T:List Int)(v:vL)(w:wD):Prop:=Kp w0 w/\v=.tuple #[iN qi (sK B n T).1,iN qi (sK B n T).2,iN qi (gJ B n T)]
theorem ou.tp{w0:wD}{v:vL}{τ:Nat->Question->Nat}{d:Nat}(h:ou w0 B n T v (w.tp τ d noJ)):ou w0 B n T v w:=⟨Kp.tp_r.1 h.1,h.2⟩
def aqC:Code:=sqL aqF
def aq4:Code:=sqL (sqR aqF)
def aq5:Code:=sqL (sqR (sqR aqF))
def adF(q:Sl a 95 [(8,iN qi 0),(9,pN (some ⟨b8,0,none⟩)),(1,iN qi (k:Int)),(2,sL ta T.length tc)]):
 aqC.wp tP (λe y G=>e=.normal/\Sl y 95 [(9,pN (some ⟨b8,0,none⟩)),(1,iN qi (k:Int)),(2,sL ta T.length tc)]/\G=u) a u:=by
 obtain⟨H,rfl,D,F,A,h2,-⟩:=q.lit;simp only[aqC,aqF,sqL,sqR,dI,f24,Agx,up,Akz,D,F,A,h2];clear q
 go_wp2_with fail
 exact xT
def adG(q:Sl a 95 [(9,pN (some ⟨b8,0,none⟩)),(1,iN qi (k:Int)),(2,sL ta T.length tc)]):
 aq4.wp tP (λe y F=>e=.normal/\Sl y 95 [(10,.func (.func 89) #[] #[pN (some ⟨b8,0,none⟩)]),(9,pN (some ⟨b8,0,none⟩)),(1,iN qi (k:Int)),(2,sL ta T.length tc)]/\F=u) a u:=by
 obtain⟨G,rfl,D,A,h2,-⟩:=q.lit;simp only[aq4,aqF,sqL,sqR,dI,f24,Agx,up,Akz,D,A,h2];clear q
 go_wp2_with fail
 exact xT
def adH{W:wD}{m:Nat}(y:AsW W V B m C k b8)(M:Opened W V B n0 m C)(O:Sl a 95 [(10,.func (.func 89) #[] #[pN (some ⟨b8,0,none⟩)]),(9,pN (some ⟨b8,0,none⟩)),(1,iN qi (k:Int)),(2,sL ta T.length tc)]):
 aq5.wp tP (λe U G=>e=.normal/\Sl U 95 [(1,iN qi (k:Int)),(2,sL ta T.length tc),(9,pN (some ⟨b8,0,none⟩)),(10,.func (.func 89) #[] #[pN (some ⟨b8,0,none⟩)]),(6,iN qi (dw B k T 0).1),(7,iN qi ((dw B k T 0).2:Int))]/\KnP G m (cnt B)/\W.grownBy G (some m)) a W:=by
 have Z:=y.mlt;have Y:(B.hs k).length<=3000:=qC y.fine y.hk;have I:=lH (c92 V B y.fine n0 m C k y.hk 89 #[pN (some ⟨b8,0,none⟩)] (λp=>B.count p 200) W M (cf func89 rfl rfl) λu p J h2 hp=>y.h89 J h2 hp);have Q:((B.hs k).map λp=>B.count p 200).length=(B.hs k).length:=yW
 have H:Hid (∀v u,u.ownsRow W.heap.size 3 1 v (B.hs k).length (ints ((B.hs k).map λp=>B.count p 200))->cF tP 91 #[v] u λe G=>∃S,e=rT S/\G.ownsRow W.heap.size 3 1 S (dN ((B.hs k).map λp=>B.count p 200)).length (ints (dN ((B.hs k).map λp=>B.count p 200)))/\u.grownBy G v.ownBlock):=lH λv u h=>c91 _ W.heap.size v u (by rw[Q];exact h) (by rw[Q];omega);have L:Hid ((dw B k T 0).1= -1/\(dw B k T 0).2=(dN ((B.hs k).map λp=>B.count p 200)).length):=lH ⟨rfl,rfl⟩;have hc:=y.cells;generalize dw B k T 0=s0 at*;generalize (dN ((B.hs k).map λp=>B.count p 200))=ys at*;generalize ints ((B.hs k).map λp=>B.count p 200)=xs at*;obtain⟨za,la,ca,pa,zc,lc,cc,pc⟩:=V;obtain⟨q0,q1,q2,q3,q4,q5,q6,q7,q8,-⟩:=hc;obtain⟨tt,rfl,K,X,J,h2,-⟩:=O.lit;simp only[aq5,aqF,sqL,sqR,dI,f24,Agx,up,Akz,K,X,J,h2];clear O y M
 go_wp2_with (first|(go_at_call 92;refine I.out.mono ?_;rintro e u ⟨v,rfl,F,D,q⟩;have A:=lH (Ajb F (Ajb D q));clear F D q)|(go_at_call 91;refine(H.out _ _ A.out.1).mono ?_;rintro e u2 ⟨v2,rfl,F,q⟩;obtain⟨qa,aa,hv⟩:=Py F;subst hv;have HF:=lH q;clear F q))
 refine⟨⟨rfl,rfl,rfl,rfl,rfl,rfl,?_,?_,trivial⟩,A.out.2.1.kept HF.out λe=>?_,rP A.out.2.2 HF.out λj e=>(A.out.1.lt j e).1⟩
 ·rw[L.out.1];rfl
 ·rw[L.out.2];rfl
 have:=(A.out.1.lt m e.symm).1;omega
def adI{w1:wD}{b3 n1:Nat}(hd:a.defers=[])(I:Sl a 95 [(3,pN (some ⟨b3,0,none⟩)),(1,iN qi n),(2,sL ta T.length tc)])(S:Kp w w1)(L:aF w1 ta T)(e8:a.tmps[8]?.getD ud=iN qi (gJ B n T))(ab:fQ w.heap.size n1 V B (gJ B n T) (a.tmps[9]?.getD ud) w1)(hR:∀v w',ou w B n T v w'->R v w'):GLb tP (Aks 24) [.code aqF] R a w1:=by
 refine o7 (fn:=f24) (Q:=ou w B n T) rfl xD xN hd xD xD (λv w' τ d h=>ou.tp h) (λτ=>?_) hR;obtain⟨W,G⟩:∃W,W=w1.tp τ 0 noJ:=⟨_,rfl⟩;obtain⟨b8,l,e9,_,K,aj,A⟩:=ab;replace S:Kp w W:=by rw[G];exact Kp.tp_r.2 S
 replace L:aF W ta T:=by rw[G];exact aF.tp.2 L
 replace K:bQ w.heap.size V B (gJ B n T) (.agg l) W:=by rw[G];exact bQ.tp.2 K
 replace A:W.heap[b8]? =some (cL l 118 (0,0)):=by rw[G,aP];exact A
 rw[<-G];clear G;have y:Sl a 95 [(8,iN qi (gJ B n T)),(9,pN (some ⟨b8,0,none⟩)),(1,iN qi n),(2,sL ta T.length tc)]:=⟨I.1,I.2.1,e8,e9,I.2.2.2⟩;have H0:=lH S;by_cases q:gJ B n T=0
 ·obtain⟨hA,ag,m,C,hl,D⟩:=K.2 q;obtain⟨_,ae,af,_⟩:=wJ q;have ai:=bJ ae;obtain⟨ah,ac⟩:=OE af;have hF:=kK hA;obtain⟨k,rfl⟩:∃k:Nat,n=(k:Int):=⟨n.toNat,zP⟩;have hk:k<B.L.length:=zP
  have F:=D.mlow;rw[uK hl]at A;have ad:Cells W (cu b8 V B m C):=by simp only[cu,Cells,and_true];simp[Aeq,A]
  have H:AsW W V B m C k b8:=⟨hF,hk,D.at_,D.kn,ad,BQ hF hk⟩;have hV:sK B (k:Int) T=((dw B k T T.length).1,((dw B k T T.length).2:Int)):=by unfold sK;rw[if_pos q];simp
  have e:aqF=.seq aqC (.seq aq4 (.seq aq5 (.seq (.seq as6 (.block 0 (.loop fG))) Pz))):=xD
  rw[e];rw[q]at y;refine iD (adF y) λa1 u1 ⟨s1,x1⟩=>?_;subst x1;refine iD (adG s1) λa2 u2 ⟨s2,x2⟩=>?_;subst x2;refine iD (adH (T:=T) H D s2) λa3 u3 ⟨s3,k3,g3⟩=>?_;have J:(Code.seq as6 (.block 0 (.loop fG))).wp tP (λe a' u'=>e=.normal/\(Sl a' 95 (asO k b8 ta T.length tc T.length (dw B k T T.length).1 (dw B k T T.length).2)/\KnP u' m (cnt B)/\u2.grownBy u' (some m))) a3 u3:=by refine iD (adw s3) λa4 u4 ⟨M,x4⟩=>?_;subst x4;exact adB H D L zP (λj hj=>(ac j hj).2) M k3 g3
  refine iD J λa4 u4 ⟨M,k4,g4⟩=>?_;have O:Hid (ou w B (k:Int) T (.tuple #[.int qi (dw B k T T.length).1,.int qi ((dw B k T T.length).2:Int),.int qi 0]) u4):=lH ⟨H0.out.grownX g4 λj e=>by cases e;exact F,by rw[hV,q]⟩;generalize dw B k T T.length=s at*;generalize ou w B (k:Int) T=Q at*;obtain⟨tt,rfl,U,h9,X,Y,Z,aa,h6,h7,-⟩:=M.lit;simp only[Pz,asT,sqR,dI,f24,Agx,up,Akz,U,h9,X,Y,Z,aa,h6,h7];clear M s3 s2 s1 y I J e
  go_wp2_with fail
  refine bodyPost_ret (v:=.tuple #[iN qi s.1,iN qi (s.2:Int),iN qi 0]) (by simp[results,go_sem]) rfl ⟨_,rfl,O.out⟩
 have O:Hid (∀u,Kp w u->ou w B n T (.tuple #[.int qi 0,.int qi 0,.int qi (gJ B n T)]) u):=lH λu hu=>⟨hu,by unfold sK;rw[if_neg q]⟩;obtain⟨ts,rfl,h8,h9,U,h2,-⟩:=y.lit;simp only[aqF,sqR,dI,f24,Agx,up,Akz,h9,h8,U,h2];clear K A I y e8 e9 L;generalize ou w B n T=Q at*;generalize gJ B n T=al at*
 go_wp2_with fail
 refine bodyPost_ret (v:=.tuple #[iN qi 0,iN qi 0,iN qi al]) (by simp[results,go_sem]) rfl ⟨_,rfl,O.out _ H0.out⟩
def adJ(F:GBk w V B)(n:Int)(y:aF w ta T):bT tP 24 #[V.val B,iN qi n,sL ta T.length tc] w (ou w B n T):=by
 refine iU (fn:=f24) (x:=dI) rfl rfl ?_;have e:dI=.seq aqA (.seq aqE aqF):=xD
 rw[e];exact aQ (adC λa1 w1 b3 G q c1=>aQ (adE (y.kp q) F G q c1 λJ K D A H I=>adI D.2.1 D (q.trans A) (y.kp (q.trans A)) H I λ_ _ h=>h))
end
end Go.Proofs.Y
namespace Go.Proofs.Y
open Go.RowKit Go.Tp Go.Meter
def jw(B:Bk)(far a e:Int):Int:=if ¬eH B far=0 then eH B far else if eP [a,e]=false then 1 else if e<a then 7 else 0
def jW(B:Bk)(far a e:Int):Int:=if jw B far a e=0 then B.price far a e else 0
def PD{B:Bk}{far:Int}(h:eH B far=0):aV B=0/\btw far 0 999=true/\∃i,B.zoneIx far=some i:=by
 unfold eH at h
 split at h
 ·rename_i e;exact absurd h e
 rename_i e
 split at h
 ·simp at h
 rename_i h2
 split at h
 ·simp at h
 rename_i q;refine⟨by simpa using e,by simpa using h2,?_⟩
 cases y:B.zoneIx far with
 |none=>exact absurd y q
 |some i=>exact⟨i,rfl⟩
def adK{V:BkV}{B:Bk}{far a e:Int}(w:wD)(H:dO w V B)(h:eH B far=0)(G:eP [a,e]=true):cF tP 113 #[V.val B,iN qi far,iN qi a,iN qi e] w λI K=>I=rT (iN qi (B.price far a e))/\bX w.heap.size w K:=by
 obtain⟨J,h2,i,y⟩:=PD h;have A:=kK J;have F:i<B.Z.length:=by unfold Bk.zoneIx at y;rw[Aik]at y;exact y.1
 have q:B.Z[i]? =some B.Z[i]:=lG F;have D:=A.zone i _ q;simp only[eP,Afl,List.all_nil,Alh,Aal]at G;have Q:=bJ G.1;have S:=bJ G.2;have L:=A.day;have M:=A.D;have O:=A.U;exact Bv V B _ i far a e w H.at_ H.nz y q (vX y q) zP zP ⟨D.2.1.1,D.2.1.2,D.2.2.1.1,D.2.2.1.2⟩ zP zP
def c44(V:BkV)(B:Bk)(far a e:Int)(w:wD)(I:dO w V B)(J:dP w):cF tP 44 #[V.val B,iN qi far,iN qi a,iN qi e] w λG X=>G=rT (.tuple #[iN qi (jW B far a e),iN qi (jw B far a e)])/\bX w.heap.size w X:=by
 by_cases D:eH B far=0
 ·have A:=FI I J D;have Q:=lH λu (U:bX w.heap.size w u)=>adK (a:=a) (e:=e) u (I.below U (nR _)) D;have O:=lH D;clear I J D;obtain⟨za,la,M,pa,zc,lc,cc,pc⟩:=V
  cases h2:eP [a,e]<;>by_cases S:a>e
  all_goals
   go_enter func44,ntmps44
   go_wp2_with (first|(go_at_call 112;refine A.out.mono ?_;rintro G w1 ⟨rfl,y⟩)|(go_at_call 80;refine(c80 [a,e] _ 2 2 _ rfl (YW (by go_simp) (by go_simp)) yW).mono ?_;rw[h2];rintro G w2 ⟨rfl,F⟩;have q:=lH (((y.out.alloc y.out.size _).alloc (by have:=y.out.size;simp;omega) _).trans (F.mono (by have:=y.out.size;simp;omega)));obtain⟨n0,Y,Z,n3,n4,n5,n6,-⟩:=gV F (nR _) (show Cells _ (aB w1.heap.size ⟨za,la,M,pa,zc,lc,cc,pc⟩ B)from by simp only[aB,Cells,and_true];go_simp);clear F)|(go_at_call 113;refine(Q.out _ q.out h2).mono ?_;rintro G w3 ⟨rfl,H⟩;have q:=lH (q.out.trans (H.mono q.out.size));clear H))
   go_ret2
   exact⟨by simp[jW,jw,O.out,h2,S],q.out⟩
 have A:=FK I J D;have L:Hid (jw B far a e=eH B far):=lH (by simp[jw,D]);have K:Hid (jW B far a e=0):=lH (by simp[jW,L.out,D]);clear I J;obtain⟨za,la,M,pa,zc,lc,cc,pc⟩:=V;go_enter func44,ntmps44
 go_wp2_with (go_at_call 112;refine A.out.mono ?_;rintro G w1 ⟨rfl,y⟩)
 go_ret2
 exact⟨by rw[K.out,L.out];rfl,y.out.alloc y.out.size _⟩
def PE{V:BkV}{B:Bk}{far a e:Int}(w:wD)(G:dO w V B)(h:eH B far=0)(J:0<=a/\a<=1000)(he:e<=1000):cF tP 113 #[V.val B,iN qi far,iN qi a,iN qi e] w λH K=>H=rT (iN qi (B.price far a e))/\bX w.heap.size w K:=by
 obtain⟨I,h2,i,y⟩:=PD h;have A:=kK I;have F:i<B.Z.length:=by unfold Bk.zoneIx at y;rw[Aik]at y;exact y.1
 have q:B.Z[i]? =some B.Z[i]:=lG F;have D:=A.zone i _ q;have L:=A.day;have M:=A.D;have O:=A.U;exact Bv V B _ i far a e w G.at_ G.nz y q (vX y q) zP zP ⟨D.2.1.1,D.2.1.2,D.2.2.1.1,D.2.2.1.2⟩ J he
def dR(p:Int->Int)(e:List Int)(b:Int×Int):Int×Int:=e.foldl (λb t=>if p t<b.2 then(t,p t)else b) b
def adL(p:Int->Int)(e:List Int)(t:Int)(b:Int×Int):dR p (e++[t]) b=if p t<(dR p e b).2 then(t,p t)else dR p e b:=by unfold dR;rw[List.foldl_append];rfl
def jy(B:Bk)(far s a e:Int):Int:=if ¬eH B far=0 then eH B far else if eP [s,a,e]=false then 1 else if e<a then 7 else 0
def pI(B:Bk)(far s:Int)(t:Int):Int:=B.price far t (t+s)
def dY(B:Bk)(far s a e:Int):Int×Int:=if jy B far s a e=0 then dR (pI B far s) (bg a e) (a,pI B far s a)else(0,0)
def c41(V:BkV)(B:Bk)(far s a e:Int)(w:wD)(Y:dO w V B)(hv:dP w):cF tP 41 #[V.val B,iN qi far,iN qi s,iN qi a,iN qi e] w λI w'=>I=rT (.tuple #[iN qi (dY B far s a e).1,iN qi (dY B far s a e).2,iN qi (jy B far s a e)])/\bX w.heap.size w w':=by
 by_cases L:eH B far=0
 ·have A:=FI Y hv L;have HP:Hid (∀u,bX w.heap.size w u->∀t,0<=t/\t<=1000->t+s<=1000->cF tP 113 #[V.val B,iN qi far,iN qi t,iN qi (t+s)] u λI u'=>I=rT (iN qi (pI B far s t))/\bX u.heap.size u u'):=lH λu hu t h2 Z=>PE u (Y.below hu (nR _)) L h2 Z;have H1:=lH L;clear Y hv L;obtain⟨za,la,ca,pa,zc,lc,cc,pc⟩:=V
  cases h2:eP [s,a,e];rotate_left
  have D:=h2;simp only[eP,Afl,List.all_nil,Alh,Aal]at D;have t1:=bJ D.1;have t2:=bJ D.2.1;have t3:=bJ D.2.2;clear D;by_cases Z:e<a;rotate_left;have ag:¬a>e:=Z;have HA:Hid (jy B far s a e=0):=lH (by simp[jy,H1.out,h2];omega);have HR:Hid (dY B far s a e=dR (pI B far s) (bg a e) (a,pI B far s a)):=lH (by simp[dY,HA.out])
  all_goals
   go_enter func41,ntmps41
   go_wp2_with (first|(go_at_call 112;refine A.out.mono ?_;rintro I w1 ⟨rfl,q⟩)|(go_at_call 80;refine(c80 [s,a,e] _ 3 3 _ rfl (YX (by go_simp) (by go_simp) (by go_simp)) yW).mono ?_;rw[h2];rintro I w2 ⟨rfl,J⟩;have y:=lH (((q.out.alloc q.out.size _).alloc (by have:=q.out.size;simp;omega) _).trans (J.mono (by have:=q.out.size;simp;omega)));have S:=lH (gV J (nR _) (show Cells _ (aB w1.heap.size ⟨za,la,ca,pa,zc,lc,cc,pc⟩ B)from by simp only[aB,Cells,and_true];go_simp));obtain⟨n0,n1,n2,n3,n4,n5,n6,-⟩:=S.out;clear J)|(go_at_call 113;refine(HP.out _ y.out a ⟨zP,zP⟩ zP).mono ?_;rintro I w3 ⟨rfl,K⟩;have O:=lH (y.out.trans (K.mono y.out.size));have aa:=lH (gV K (nR _) S.out);clear K))
  ·generalize ab:pI B far s=p at*;clear n0 n1 n2 n3 n4 n5 n6;obtain⟨H,U⟩:∃H,H=λt=>dR p (bg a (t-1)) (a,p a):=⟨_,rfl⟩;have F:=lH U;clear U ab
   go_loopw [10,11,14] (λad ae af wr=>∃t:Int,a<=t/\t<=e+1/\af=iN qi t/\ad=iN qi (H t).1/\ae=iN qi (H t).2/\Hid (bX w.heap.size w wr)/\Hid (Cells wr (aB w1.heap.size ⟨za,la,ca,pa,zc,lc,cc,pc⟩ B))) (λ_ _ v _=>(e+1-intOf v).toNat)
   case atStart=>exact⟨a,zP,zP,rfl,by rw[F.out];simp only[qB (show a-1<a by omega)];rfl,by rw[F.out];simp only[qB (show a-1<a by omega)];rfl,O,aa⟩
   case round=>
    obtain⟨t,ac,ah,rfl,rfl,rfl,G,Q⟩:=hrel;obtain⟨n0,n1,n2,n3,n4,n5,n6,-⟩:=Q.out;by_cases ai:t<=e
    ·have HS:Hid (H (t+1)=if p t<(H t).2 then(t,p t)else H t):=lH (by
      rw[F.out];simp only;rw[show t+1-1=t by omega,rW ac,adL])
     generalize H t=rt at*;obtain⟨r1,r2⟩:=rt;by_cases hlt:p t<r2
     all_goals
      go_wp2_with (go_at_call 113;refine(HP.out _ G.out t ⟨zP,zP⟩ zP).mono ?_;rintro I w5 ⟨rfl,X⟩;have M:=lH X;clear X)
      go_roundw
      case rel=>exact⟨t+1,zP,zP,by go_num,by rw[HS.out];split<;>first|rfl|(simp only at*; omega),by rw[HS.out];split<;>first|rfl|(simp only at*; omega),lH (G.out.trans (M.out.mono G.out.size)),lH (gV M.out (nR _) Q.out)⟩
      simp only[intOf];omega
    obtain rfl:t=e+1:=zP
    have HE:Hid (dY B far s a e=H (e+1)):=lH (by rw[HR.out,F.out];simp only;rw[show e+1-1=e by omega]);go_wp2
    go_ret3
    exact⟨by rw[HE.out,HA.out];rfl,G.out⟩
  all_goals
   go_ret3
   exact⟨by first|simp[dY,jy,H1.out,h2,Z]|simp[dY,jy,H1.out,h2],y.out⟩
 have A:=FK Y hv L;clear Y hv;obtain⟨za,la,ca,pa,zc,lc,cc,pc⟩:=V;go_enter func41,ntmps41
 go_wp2_with (go_at_call 112;refine A.out.mono ?_;rintro I w1 ⟨rfl,q⟩)
 go_ret3
 exact⟨by simp[dY,jy,L],q.out.alloc q.out.size _⟩
def jd(P:Nat->Bool):Nat->Nat->Nat
 |0,k=>k
 |n+1,k=>if P k=true then jd P n (k+1)else k
def jL(B:Bk)(far a m:Int):Int:=if ¬eH B far=0 then eH B far else if btw a 0 200=false then 1 else if btw m 0 9999=false then 1 else 0
def jX(B:Bk)(far a m:Int)(k:Nat):Bool:=decide (B.price far a (a+k+1)<=m)
def iM(B:Bk)(far a m:Int):Int:=if jL B far a m=0 then(jd (jX B far a m) 200 0 :Nat)else 0
def c42(V:BkV)(B:Bk)(far a m:Int)(w:wD)(K:dO w V B)(O:dP w):cF tP 42 #[V.val B,iN qi far,iN qi a,iN qi m] w λM Y=>M=rT (.tuple #[iN qi (iM B far a m),iN qi (jL B far a m)])/\bX w.heap.size w Y:=by
 by_cases G:eH B far=0
 ·have A:=FI K O G;have HP:=lH λu (hu:bX w.heap.size w u) t h2 I=>PE (a:=a) (e:=t) u (K.below hu (nR _)) G h2 I;have Z:=lH G;clear K O G;obtain⟨za,la,L,pa,zc,lc,cc,pc⟩:=V
  cases h2:btw a 0 200<;>cases I:btw m 0 9999
  rotate_left 3
  have Q:Hid (jL B far a m=0):=lH (by simp[jL,Z.out,h2,I]);have HR:Hid (iM B far a m=(jd (jX B far a m) 200 0 :Nat)):=lH (by simp[iM,Q.out]);have t1:=bJ h2
  all_goals
   go_enter func42,ntmps42
   go_wp2_with (first|(go_at_call 112;refine A.out.mono ?_;rintro M w1 ⟨rfl,q⟩)|(go_at_call 109;refine(c109 _ _).mono ?_;rw[h2];rintro e Y ⟨rfl,rfl⟩)|(go_at_call 114;refine(dK _ _ _ _).mono ?_;rw[I];rintro e Y ⟨rfl,rfl⟩))
  ·have S:Hid (Cells (w1.alloc (cL (BkV.row ⟨za,la,L,pa,zc,lc,cc,pc⟩ B) 112)) (aB w1.heap.size ⟨za,la,L,pa,zc,lc,cc,pc⟩ B)):=lH (by simp only[aB,Cells,and_true];go_simp)
   go_loopw [12,33] (λU X wr=>∃k:Nat,k<=200/\X=iN qi (k:Int)/\U=iN qi (k:Int)/\Hid (iM B far a m=(jd (jX B far a m) (200-k) k:Nat))/\Hid (bX w.heap.size w wr)/\Hid (Cells wr (aB w1.heap.size ⟨za,la,L,pa,zc,lc,cc,pc⟩ B))) (λ_ v _=>200-(intOf v).toNat)
   case atStart=>exact⟨0,zP,rfl,rfl,HR,lH (q.out.alloc q.out.size _),S⟩
   case round=>
    obtain⟨k,hk,rfl,rfl,D,y,H⟩:=hrel;obtain⟨n0,n1,n2,n3,n4,n5,n6,-⟩:=H.out;by_cases ab:k<200
    ·have HS:Hid (jd (jX B far a m) (200-k) k=if jX B far a m k=true then jd (jX B far a m) (200-(k+1)) (k+1)else k):=lH (by
      rw[show 200-k=(200-(k+1))+1 by omega];rfl)
     by_cases aa:B.price far a (a+k+1)>m
     all_goals
      go_wp2_with (go_at_call 113;refine(HP.out _ y.out (a+k+1) zP zP).mono ?_;rintro M w5 ⟨rfl,J⟩;have F:=lH J;clear J)
     ·go_ret2
      exact⟨by rw[D.out,HS.out,if_neg (by simp[jX];omega),Q.out];rfl,y.out.trans (F.out.mono y.out.size)⟩
     go_roundw
     case rel=>exact⟨k+1,zP,by go_num,by go_num,lH (by rw[D.out,HS.out,if_pos (by simp[jX];omega)]),lH (y.out.trans (F.out.mono y.out.size)),lH (gV F.out (nR _) H.out)⟩
     simp only[intOf];omega
    obtain rfl:k=200:=zP
    go_wp2
    go_ret2
    exact⟨by rw[D.out,Q.out];rfl,y.out⟩
  all_goals
   go_ret2
   exact⟨by simp[iM,jL,Z.out,h2,I],q.out.alloc q.out.size _⟩
 have A:=FK K O G;clear K O;obtain⟨za,la,L,pa,zc,lc,cc,pc⟩:=V;go_enter func42,ntmps42
 go_wp2_with (go_at_call 112;refine A.out.mono ?_;rintro M w1 ⟨rfl,q⟩)
 go_ret2
 exact⟨by simp[iM,jL,G],q.out.alloc q.out.size _⟩
end Go.Proofs.Y
