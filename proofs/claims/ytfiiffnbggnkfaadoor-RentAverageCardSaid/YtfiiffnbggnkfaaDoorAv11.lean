/- A part of the proof of a law; no conditions of its own. -/
import Derived.Test.YtfiiffnbggnkfaaDoorAv10
import Derived.DyingErrors
open Go.RowKit renaming Below→bX
open Go renaming FuncId→fI, Program→pQ, Value→vL, World→wD
open Go.IntKind renaming i64→qi
set_option maxRecDepth 100000
open Go renaming undef→ud
open Nat renaming le_refl→nR
open Go.Proofs.Tryd renaming prog→tP
open Go.World renaming block_lt_of_cell?→wBk
open Option.some renaming injEq→oI
open Nat renaming lt_of_lt_of_le→nL
set_option maxHeartbeats 4000000
namespace Go.Proofs.YtfiiffnbggnkfaaDoor
open Go.RowKit Go.Rent
def Gone:Exit->Act->wD->Prop:=fun _ _ _=>False
theorem jL {w:wD} {o:Obj} {a:Addr} {v:vL} (h:w.cell? a=some v):(w.alloc o).cell? a=some v:=by
 have hl:=wBk w _ h;rw[World.cell?_alloc_lt _ _ _ hl];exact h
structure iT (w:wD) (V:BkV) (B:Bk) (bb hb trb h tb tofs tcap:Nat):Prop where
 b0:w.cell? ⟨bb,0,none⟩=some (.int qi B.hours)
 b1:w.cell? ⟨bb,1,none⟩=some (.slice V.ta B.towns.length V.tc)
 b2:w.cell? ⟨bb,2,none⟩=some (.slice V.la B.links.length V.lc)
 b3:w.cell? ⟨bb,3,none⟩=some (.slice V.pa B.pairs.length V.pc)
 hc:w.cell? ⟨hb,0,none⟩=some (.int qi (h:Int))
 tr:w.cell? ⟨trb,0,none⟩=some (.slice (some ⟨tb,tofs,none⟩) B.links.length tcap)
 g0:w.cell? ⟨0,0,none⟩=some (.func (.func 116) #[] #[])
 g1:w.cell? ⟨1,0,none⟩=some (.func (.func 117) #[] #[])
theorem iT.below {n:Nat} {w w':wD} {V:BkV} {B:Bk} {bb hb trb h tb tofs tcap:Nat} (k:iT w V B bb hb trb h tb tofs tcap) (hb':bX n w w') (hn:w.heap.size<=n):iT w' V B bb hb trb h tb tofs tcap:=
 ⟨aoF hb' k.b0 hn,aoF hb' k.b1 hn,aoF hb' k.b2 hn,aoF hb' k.b3 hn,aoF hb' k.hc hn,aoF hb' k.tr hn,aoF hb' k.g0 hn,aoF hb' k.g1 hn⟩
def found (B:Bk) (T:Nat->Int) (h:Nat):vL:= .agg #[.int qi (h:Int),.int qi (B.lackIn T true h),.int qi (B.lackIn T false h)]
theorem DX (V:BkV) (B:Bk) (hB:B.Fine) (h:Nat) (tb tofs tcap:Nat) (T:Nat->Int) (w0 w:wD) (hat:bT w0 V B) (hT:bK w0 tb tofs B.links.length T) (hh:(h:Int)<B.hours) (hb:bX w0.heap.size w0 w):
  Calls tP 39 #[.agg #[.int qi B.hours,.slice V.ta B.towns.length V.tc,.slice V.la B.links.length V.lc,.slice V.pa B.pairs.length V.pc],.int qi (h:Int),.slice (some ⟨tb,tofs,none⟩) B.links.length tcap,.agg #[.func (.func 117) #[] #[]]] w
   fun e w'=>e= .returned (ldv (B.inn T true h))/\bX w.heap.size w w':=c57 true V B hB h tb tofs tcap T w (hat.below hb (nR _)) (hT.below hb (nR _)) hh
theorem WC (V:BkV) (B:Bk) (hB:B.Fine) (h:Nat) (tb tofs tcap:Nat) (T:Nat->Int) (w0 w:wD) (hat:bT w0 V B) (hT:bK w0 tb tofs B.links.length T) (hh:(h:Int)<B.hours) (hb:bX w0.heap.size w0 w):
  Calls tP 39 #[.agg #[.int qi B.hours,.slice V.ta B.towns.length V.tc,.slice V.la B.links.length V.lc,.slice V.pa B.pairs.length V.pc],.int qi (h:Int),.slice (some ⟨tb,tofs,none⟩) B.links.length tcap,.agg #[.func (.func 116) #[] #[]]] w
   fun e w'=>e= .returned (ldv (B.inn T false h))/\bX w.heap.size w w':=c57 false V B hB h tb tofs tcap T w (hat.below hb (nR _)) (hT.below hb (nR _)) hh
theorem qB {a w w':wD} (h:bX a.heap.size a w) (k:bX w.heap.size w w'):bX a.heap.size a w':=h.trans (k.mono h.size)
theorem bM {a w:wD} {o:Obj} (h:bX a.heap.size a w):bX a.heap.size a (w.alloc o):=h.alloc h.size o
def Box (w:wD) (b:Nat) (v:Nat->Int):Prop:= ∀i,i<6->w.cell? ⟨b,i,none⟩=some (.int qi (v i))/\w.frozen? ⟨b,i,none⟩=false
theorem Box.below {n:Nat} {w w':wD} {b:Nat} {v:Nat->Int} (h:Box w b v) (hb:bX n w w') (hn:b<n):Box w' b v:=fun i hi=>by
 obtain⟨hc,hf⟩:=ak hb;rw[hc _ _ hn,hf _ _ hn];exact h i hi
noncomputable def fA:Array Oper:=match Tryd.f68.body with
 |some (.seq (.region _ ops _) _)=>ops
 |_=> #[]
def KL (f4 f9 fa fb fc fd:Bool):Array Bool:= #[true,true,true,true,f4,true,true,true,true,f9,fa,fb,fc,fd]
theorem WE (f4 f9 fa fb:Bool) (h:f9=true->f4=true) (hn:f4=true->f9=true->fa=true->fb=true->False):
  Region.ready .any fA (KL f4 f9 fa fb false false)=(bif f4 then (bif f9 then [] else [9]) else [4])++((bif fa then [] else [10])++(bif fb then [] else [11])):=by
 cases f4<;>cases f9<;>cases fa<;>cases fb<;>first |exact(hn rfl rfl rfl rfl).elim |kernel_rfl | (exact absurd (h rfl) (by decide))
theorem WG:Region.ready .any fA (KL true true true true false false)= [12]:=by kernel_rfl
theorem WH:Region.ready .any fA (KL true true true true true false)= [13]:=by kernel_rfl
theorem WI:Region.ready .any fA (KL true true true true true true)= []:=by kernel_rfl
section
variable (V:BkV) (B:Bk) (bb hb trb h tb tofs tcap:Nat) (p3 p4:vL)
def KA (va vb v4 v9:vL):Act:=⟨#[.pointer (some ⟨bb,0,none⟩),.pointer (some ⟨hb,0,none⟩),.pointer (some ⟨trb,0,none⟩),p3,p4,va,vb,ud,
 .agg #[.int qi B.hours,.slice V.ta B.towns.length V.tc,.slice V.la B.links.length V.lc,.slice V.pa B.pairs.length V.pc],.int qi (h:Int),.slice (some ⟨tb,tofs,none⟩) B.links.length tcap,.agg #[.func (.func 117) #[] #[]],v4,
 .agg #[.int qi B.hours,.slice V.ta B.towns.length V.tc,.slice V.la B.links.length V.lc,.slice V.pa B.pairs.length V.pc],.int qi (h:Int),.slice (some ⟨tb,tofs,none⟩) B.links.length tcap,.agg #[.func (.func 116) #[] #[]],v9,
 ud,ud,ud,ud,ud,ud,ud,ud,ud,ud,ud,ud,ud,ud,ud,ud,ud,ud,ud,ud,ud,ud,ud,ud],[]⟩
end
structure KS (B:Bk) (T:Nat->Int) (h:Nat) (w0 w:wD) (f4 f9 fa fb:Bool) (va vb v4 v9:vL):Prop where
 bel:bX w0.heap.size w0 w
 h4:f4=true->v4=ldv (B.inn T true h)
 h9:f9=true->v9=ldv (B.inn T false h)
 ha:fa=true-> ∃b,va= .pointer (some ⟨b,0,none⟩)/\w0.heap.size<=b/\b<w.heap.size/\Box w b (fun _=>0)
 hb:fb=true-> ∃b,vb= .pointer (some ⟨b,0,none⟩)/\w0.heap.size<=b/\b<w.heap.size/\Box w b (fun _=>0)
 ne:fa=true->fb=true->va≠vb
theorem Ky (w:wD):Box (w.alloc (.cells #[.int qi 0,.int qi 0,.int qi 0,.int qi 0,.int qi 0,.int qi 0] 91)) w.heap.size (fun _=>0):=by
 intro i hi
 rcases i with _ |_ |_ |_ |_ |_ |i
 ·exact⟨by simp,by simp⟩
 ·exact⟨by simp,by simp⟩
 ·exact⟨by simp,by simp⟩
 ·exact⟨by simp,by simp⟩
 ·exact⟨by simp,by simp⟩
 ·exact⟨by simp,by simp⟩
 ·omega
def fill (w:wD) (b:Nat) (v:Nat->Int):wD:=
 (((((w.setCell ⟨b,0,none⟩ (.int qi (v 0))).setCell ⟨b,1,none⟩ (.int qi (v 1))).setCell ⟨b,2,none⟩ (.int qi (v 2))).setCell ⟨b,3,none⟩ (.int qi (v 3))).setCell ⟨b,4,none⟩ (.int qi (v 4))).setCell ⟨b,5,none⟩ (.int qi (v 5))
theorem AQ {w0 w:wD} {b:Nat} {v:Nat->Int} (h:bX w0.heap.size w0 w) (hb:w0.heap.size<=b):bX w0.heap.size w0 (fill w b v):=
 (((((h.setCell (p:=⟨b,0,none⟩) hb _).setCell (p:=⟨b,1,none⟩) hb _).setCell (p:=⟨b,2,none⟩) hb _).setCell (p:=⟨b,3,none⟩) hb _).setCell (p:=⟨b,4,none⟩) hb _).setCell (p:=⟨b,5,none⟩) hb _
theorem nZ {w:wD} {b:Nat} {v:Nat->Int}:(fill w b v).heap.size=w.heap.size:=by simp[fill]
theorem Kz {w:wD} {b c:Nat} {v u:Nat->Int} (h:Box w c u) (hne:b≠c):Box (fill w b v) c u:=fun i hi=>by
 have hn:c≠b:=fun e=>hne e.symm;obtain⟨x,y⟩:=h i hi;constructor
 ·simp[fill,World.cell?_setCell_far,hne,x]
 ·simp[fill,y]
theorem KC {w:wD} {b:Nat} {v u:Nat->Int} (h:Box w b u):Box (fill w b v) b v:=fun i hi=>by
 have x0:=h 0 (by omega);have x1:=h 1 (by omega);have x2:=h 2 (by omega);have x3:=h 3 (by omega);have x4:=h 4 (by omega);have x5:=h 5 (by omega);go_split_ands;unfold fill
 rcases i with _ |_ |_ |_ |_ |_ |i
 ·constructor<;>go_simp
 ·constructor<;>go_simp
 ·constructor<;>go_simp
 ·constructor<;>go_simp
 ·constructor<;>go_simp
 ·constructor<;>go_simp
 ·omega
def cnt (f4 f9 fa fb:Bool):Nat:=(bif f4 then 0 else 1)+(bif f9 then 0 else 1)+(bif fa then 0 else 1)+(bif fb then 0 else 1)
theorem WJ (V:BkV) (B:Bk) (hB:B.Fine) (bb hb trb h tb tofs tcap:Nat) (T:Nat->Int) (p3 p4:vL) (w0:wD) (hat:bT w0 V B) (hT:bK w0 tb tofs B.links.length T) (hh:(h:Int)<B.hours) (Q:Exit->Act->wD->Prop) (S:wD->Prop) (hS: ∀w',bX w0.heap.size w0 w'->S w')
  (hQ: ∀b5 b6 w',bX w0.heap.size w0 w'->w0.heap.size<=b5->b5<w'.heap.size->w0.heap.size<=b6->b6<w'.heap.size->b5≠b6->Box w' b5 (B.inn T true h)->Box w' b6 (B.inn T false h)->
   Q .normal (KA V B bb hb trb h tb tofs tcap p3 p4 (.pointer (some ⟨b5,0,none⟩)) (.pointer (some ⟨b6,0,none⟩)) (ldv (B.inn T true h)) (ldv (B.inn T false h))) w'):
  ∀(n:Nat) (f4 f9 fa fb:Bool) (va vb v4 v9:vL) (w:wD),cnt f4 f9 fa fb=n->(f9=true->f4=true)->KS B T h w0 w f4 f9 fa fb va vb v4 v9->
   wpAnyH tP .any fA Q S (n+2) (KL f4 f9 fa fb false false) (KA V B bb hb trb h tb tofs tcap p3 p4 va vb v4 v9) w:=by
 intro n
 induction n with
 |zero=>
  intro f4 f9 fa fb va vb v4 v9 w hn h94 K;obtain⟨rfl,rfl,rfl,rfl⟩:f4=true/\f9=true/\fa=true/\fb=true:=by
   revert hn;cases f4<;>cases f9<;>cases fa<;>cases fb<;>simp[cnt]
  obtain rfl:=K.h4 rfl;obtain rfl:=K.h9 rfl;obtain⟨b5,rfl,l5,u5,x5⟩:=K.ha rfl;obtain⟨b6,rfl,l6,u6,x6⟩:=K.hb rfl;have hne:b5≠b6:=fun e=>K.ne rfl rfl (by rw[e]);refine wpAnyH_all (rs:= [12]) WG (by simp) (fun i hi=> ?_);obtain rfl:i=12:=by simpa using hi
  refine wpOp_step (by rfl) (fun K' hK=> ?_);simp only[fA,Tryd.f68,KA,ldv];have x0:=x5 0 (by omega);have x1:=x5 1 (by omega);have x2:=x5 2 (by omega);have x3:=x5 3 (by omega);have x4:=x5 4 (by omega);have x55:=x5 5 (by omega);go_split_ands;go_simp;refine hK _ _ ⟨hS _ (AQ K.bel l5), ?_⟩;have y5:=KC (v:=B.inn T true h) x5;have y6:=Kz (v:=B.inn T true h) x6 hne;have yb:=AQ (v:=B.inn T true h) K.bel l5;have ys:=nZ (w:=w) (b:=b5) (v:=B.inn T true h);refine wpAnyH_all (rs:= [13]) WH (by simp) (fun i hi=> ?_);obtain rfl:i=13:=by simpa using hi
  refine wpOp_step (by rfl) (fun K' hK=> ?_);have z:=hQ b5 b6 (fill (fill w b5 (B.inn T true h)) b6 (B.inn T false h)) (AQ yb l6) l5 (by rw[nZ,ys];exact u5) l6 (by rw[nZ,ys];exact u6) hne (Kz y5 (fun e=>hne e.symm)) (KC y6)
  change if _ then Oper.wp _ _ _ (fill w b5 (B.inn T true h)) _ _ else _
  generalize fill w b5 (B.inn T true h)=w2 at y5 y6 yb ys z ⊢;simp only[fA,Tryd.f68];have x0:=y6 0 (by omega);have x1:=y6 1 (by omega);have x2:=y6 2 (by omega);have x3:=y6 3 (by omega);have x4:=y6 4 (by omega);have x55:=y6 5 (by omega);go_split_ands;go_simp;exact hK _ _ ⟨hS _ (AQ yb l6),wpAnyH_done WI z 0⟩
 |succ n ih=>
  intro f4 f9 fa fb va vb v4 v9 w hn h94 K;have hr:=WE f4 f9 fa fb h94 (by rintro rfl rfl rfl rfl;simp[cnt] at hn);refine⟨fun h0=> ?_,fun i hi=> ?_⟩
  ·rw[hr] at h0
   revert h0 hn;cases f4<;>cases f9<;>cases fa<;>cases fb<;>simp[cnt]
  ·rw[hr] at hi
   rcases List.mem_append.1 hi with hi |hi
   ·cases hf4:f4 with
    |false=>
     obtain rfl:i=4:=by rw[hf4] at hi;simpa using hi
     subst hf4;have e9:f9=false:=by cases f9<;>simp_all
     refine wpOp_step (by rfl) (fun K' hK=> ?_);simp only[fA,Tryd.f68,KA];go_simp
     go_at_call 39
     refine(DX V B hB h tb tofs tcap T w0 w hat hT hh K.bel).mono ?_;rintro e w1 ⟨rfl,hbel⟩;refine hK _ _ ⟨hS _ (qB K.bel hbel),ih true f9 fa fb va vb (ldv (B.inn T true h)) v9 w1 ?_ (fun _=>rfl) ?_⟩
     ·simp only[cnt,cond_true,cond_false] at hn ⊢; omega
     ·exact⟨qB K.bel hbel,fun _=>rfl,K.h9,fun e=>(K.ha e).imp fun b q=>⟨q.1,q.2.1,nL q.2.2.1 hbel.size,q.2.2.2.below hbel q.2.2.1⟩,fun e=>(K.hb e).imp fun b q=>⟨q.1,q.2.1,nL q.2.2.1 hbel.size,q.2.2.2.below hbel q.2.2.1⟩,K.ne⟩
    |true=>
     subst hf4;obtain⟨rfl,rfl⟩:f9=false/\i=9:=by cases f9<;>simp_all
     refine wpOp_step (by rfl) (fun K' hK=> ?_);simp only[fA,Tryd.f68,KA];go_simp
     go_at_call 39
     refine(WC V B hB h tb tofs tcap T w0 w hat hT hh K.bel).mono ?_;rintro e w1 ⟨rfl,hbel⟩;refine hK _ _ ⟨hS _ (qB K.bel hbel),ih true true fa fb va vb v4 (ldv (B.inn T false h)) w1 ?_ (fun _=>rfl) ?_⟩
     ·simp only[cnt,cond_true,cond_false] at hn ⊢; omega
     ·exact⟨qB K.bel hbel,K.h4,fun _=>rfl,fun e=>(K.ha e).imp fun b q=>⟨q.1,q.2.1,nL q.2.2.1 hbel.size,q.2.2.2.below hbel q.2.2.1⟩,fun e=>(K.hb e).imp fun b q=>⟨q.1,q.2.1,nL q.2.2.1 hbel.size,q.2.2.2.below hbel q.2.2.1⟩,K.ne⟩
   ·rcases List.mem_append.1 hi with hi |hi
    ·obtain⟨rfl,rfl⟩:fa=false/\i=10:=by cases fa<;>simp_all
     refine wpOp_step (by rfl) (fun K' hK=> ?_);simp only[fA,Tryd.f68,KA];go_simp;refine hK _ _ ⟨hS _ (bM K.bel),ih f4 f9 true fb (.pointer (some ⟨w.heap.size,0,none⟩)) vb v4 v9 _ ?_ h94 ?_⟩
     ·simp only[cnt,cond_true,cond_false] at hn ⊢; omega
     ·exact⟨bM K.bel,K.h4,K.h9,fun _=>⟨w.heap.size,rfl,K.bel.size,by simp,Ky w⟩,fun e=>(K.hb e).imp fun b q=>⟨q.1,q.2.1,by simp only[World.size_alloc];omega,q.2.2.2.below ((Below.refl _ w).alloc (nR _) _) q.2.2.1⟩,
       fun _ e=>by
        obtain⟨b,rfl,_,q,_⟩:=K.hb e;intro e';injection e' with e';injection e' with e';injection e' with e'
        omega⟩
    ·obtain⟨rfl,rfl⟩:fb=false/\i=11:=by cases fb<;>simp_all
     refine wpOp_step (by rfl) (fun K' hK=> ?_);simp only[fA,Tryd.f68,KA];go_simp;refine hK _ _ ⟨hS _ (bM K.bel),ih f4 f9 fa true va (.pointer (some ⟨w.heap.size,0,none⟩)) v4 v9 _ ?_ h94 ?_⟩
     ·simp only[cnt,cond_true,cond_false] at hn ⊢; omega
     ·exact⟨bM K.bel,K.h4,K.h9,fun e=>(K.ha e).imp fun b q=>⟨q.1,q.2.1,by simp only[World.size_alloc];omega,q.2.2.2.below ((Below.refl _ w).alloc (nR _) _) q.2.2.1⟩,fun _=>⟨w.heap.size,rfl,K.bel.size,by simp,Ky w⟩,
       fun e _=>by
        obtain⟨b,rfl,_,q,_⟩:=K.ha e;intro e';injection e' with e';injection e' with e';injection e' with e'
        omega⟩
noncomputable def lN:Code:=match Tryd.f68.body with
 |some (.seq _ c)=>c
 |_=> .skip
theorem WL (V:BkV) (B:Bk) (hB:B.Fine) (bb hb trb h tb tofs tcap:Nat) (T:Nat->Int) (p3 p4:vL) (w:wD) (hat:bT w V B) (hT:bK w tb tofs B.links.length T) (hh:(h:Int)<B.hours) (hk:iT w V B bb hb trb h tb tofs tcap)
  (Q:Exit->Act->wD->Prop) (hQp: ∀c a a' w,Q (.panic c) a w->Q (.panic c) a' w)
  (hQ: ∀b5 b6 w',bX w.heap.size w w'->w.heap.size<=b5->b5<w'.heap.size->w.heap.size<=b6->b6<w'.heap.size->b5≠b6->Box w' b5 (B.inn T true h)->Box w' b6 (B.inn T false h)->
   Q .normal (KA V B bb hb trb h tb tofs tcap p3 p4 (.pointer (some ⟨b5,0,none⟩)) (.pointer (some ⟨b6,0,none⟩)) (ldv (B.inn T true h)) (ldv (B.inn T false h))) w'):
  (Code.region 0 fA true).wp tP Q ⟨#[.pointer (some ⟨bb,0,none⟩),.pointer (some ⟨hb,0,none⟩),.pointer (some ⟨trb,0,none⟩),p3,p4,ud,ud,ud,ud,ud,ud,ud,ud,ud,ud,ud,ud,ud,ud,ud,ud,ud,ud,ud,ud,ud,ud,ud,ud,ud,ud,ud,ud,ud,ud,ud,ud,ud,ud,ud,ud,ud],[]⟩ w:=by
 have hS: ∀w',bX w.heap.size w w'->iT w' V B bb hb trb h tb tofs tcap:=fun w' b=>hk.below b (nR _);refine wp_region_held_drew (S:=fun w'=>iT w' V B bb hb trb h tb tofs tcap) (by kernel_rfl) (hS _ (Below.refl _ _).drew) (fun h0=> ?_);have hd:=WJ V B hB bb hb trb h tb tofs tcap T p3 p4 w hat hT hh Q (fun w'=>iT w' V B bb hb trb h tb tofs tcap) hS hQ 4 false false false false ud ud ud ud w.drew rfl (fun e=>e)
  ⟨(Below.refl _ _).drew,(by intro e;cases e),(by intro e;cases e),(by intro e;cases e),(by intro e;cases e),(by intro e;cases e)⟩
 refine wpAnyH_take (i:=0) (fuel:=13) (v:=(.agg #[.int qi B.hours,.slice V.ta B.towns.length V.tc,.slice V.la B.links.length V.lc,.slice V.pa B.pairs.length V.pc])) (by rfl) (by kernel_rfl) (by kernel_rfl) (by kernel_rfl) (fun c a w hq=>hQp c _ a w hq)
  (Or.inl ⟨by rfl,by(intro w hSw;obtain⟨k0,k1,k2,k3,k4,k5,k6,k7⟩:=hSw;simp only[fA,Tryd.f68];go_simp)⟩) h0 ?_
 refine wpAnyH_take (i:=1) (fuel:=12) (v:=(.int qi (h:Int))) (by rfl) (by kernel_rfl) (by kernel_rfl) (by kernel_rfl) (fun c a w hq=>hQp c _ a w hq)
  (Or.inl ⟨by rfl,by(intro w hSw;obtain⟨k0,k1,k2,k3,k4,k5,k6,k7⟩:=hSw;simp only[fA,Tryd.f68];go_simp)⟩) h0 ?_
 refine wpAnyH_take (i:=2) (fuel:=11) (v:=(.slice (some ⟨tb,tofs,none⟩) B.links.length tcap)) (by rfl) (by kernel_rfl) (by kernel_rfl) (by kernel_rfl) (fun c a w hq=>hQp c _ a w hq)
  (Or.inl ⟨by rfl,by(intro w hSw;obtain⟨k0,k1,k2,k3,k4,k5,k6,k7⟩:=hSw;simp only[fA,Tryd.f68];go_simp)⟩) h0 ?_
 refine wpAnyH_take (i:=3) (fuel:=10) (v:=(.agg #[.func (.func 117) #[] #[]])) (by rfl) (by kernel_rfl) (by kernel_rfl) (by kernel_rfl) (fun c a w hq=>hQp c _ a w hq)
  (Or.inl ⟨by rfl,by(intro w hSw;obtain⟨k0,k1,k2,k3,k4,k5,k6,k7⟩:=hSw;simp only[fA,Tryd.f68];go_simp)⟩) h0 ?_
 refine wpAnyH_take (i:=5) (fuel:=9) (v:=(.agg #[.int qi B.hours,.slice V.ta B.towns.length V.tc,.slice V.la B.links.length V.lc,.slice V.pa B.pairs.length V.pc])) (by rfl) (by kernel_rfl) (by kernel_rfl) (by kernel_rfl) (fun c a w hq=>hQp c _ a w hq)
  (Or.inl ⟨by rfl,by(intro w hSw;obtain⟨k0,k1,k2,k3,k4,k5,k6,k7⟩:=hSw;simp only[fA,Tryd.f68];go_simp)⟩) h0 ?_
 refine wpAnyH_take (i:=6) (fuel:=8) (v:=(.int qi (h:Int))) (by rfl) (by kernel_rfl) (by kernel_rfl) (by kernel_rfl) (fun c a w hq=>hQp c _ a w hq)
  (Or.inl ⟨by rfl,by(intro w hSw;obtain⟨k0,k1,k2,k3,k4,k5,k6,k7⟩:=hSw;simp only[fA,Tryd.f68];go_simp)⟩) h0 ?_
 refine wpAnyH_take (i:=7) (fuel:=7) (v:=(.slice (some ⟨tb,tofs,none⟩) B.links.length tcap)) (by rfl) (by kernel_rfl) (by kernel_rfl) (by kernel_rfl) (fun c a w hq=>hQp c _ a w hq)
  (Or.inl ⟨by rfl,by(intro w hSw;obtain⟨k0,k1,k2,k3,k4,k5,k6,k7⟩:=hSw;simp only[fA,Tryd.f68];go_simp)⟩) h0 ?_
 refine wpAnyH_take (i:=8) (fuel:=6) (v:=(.agg #[.func (.func 116) #[] #[]])) (by rfl) (by kernel_rfl) (by kernel_rfl) (by kernel_rfl) (fun c a w hq=>hQp c _ a w hq)
  (Or.inl ⟨by rfl,by(intro w hSw;obtain⟨k0,k1,k2,k3,k4,k5,k6,k7⟩:=hSw;simp only[fA,Tryd.f68];go_simp)⟩) h0 ?_
 exact hd
def Comes (P:pQ) (it:List Item) (Q:List Item->Act->wD->Prop) (a:Act) (w:wD):Prop:=
 ∀(b:Frame) (k:List Item) (cs:List Frame),∃it' a' w',Q it' a' w'/\Steps P (lone (b.at a (it++k)) cs w) (lone (b.at a' (it'++k)) cs w')
theorem dO {P:pQ} {it:List Item} {Q:List Item->Act->wD->Prop} {a:Act} {w:wD} (h:Q it a w):Comes P it Q a w:=fun _ _ _=>⟨it,a,w,h,.refl _ _⟩
theorem oD {P:pQ} {x y:Code} {Q:List Item->Act->wD->Prop} {a:Act} {w:wD} (h:x.wp P (Exit.then (fun a w=>Comes P [.code y] Q a w) Gone) a w):Comes P [.code (.seq x y)] Q a w:=by
 intro b k cs;obtain⟨e,a1,w1,hq,harr⟩:=h b (.code y::k) cs
 cases e with
 |normal=>
  obtain⟨it',a',w',q,s⟩:=hq b k cs;exact⟨it',a',w',q,.head step_seq (Steps.trans harr s)⟩
 |_=>exact hq.elim
theorem KD {P:pQ} {c:Operand} {x y:Code} {t:Bool} {Q:List Item->Act->wD->Prop} {a:Act} {w:wD} (hc:a.eval c= .bool t) (h:Comes P [.code (if t then x else y)] Q a w):Comes P [.code (.cond c x y)] Q a w:=by
 intro b k cs;obtain⟨it',a',w',q,s⟩:=h b k cs;exact⟨it',a',w',q,.head (step_cond hc) s⟩
theorem KE {P:pQ} {id:Nat} {ops:Array Oper} {Q:List Item->Act->wD->Prop} {a:Act} {w:wD} (h:Comes P [.inRegion ops (List.range ops.size)] Q a w):Comes P [.code (.region id ops false)] Q a w:=by
 intro b k cs;obtain⟨it',a',w',q,s⟩:=h b k cs;exact⟨it',a',w',q,.head step_region s⟩
theorem AU {P:pQ} {ops:Array Oper} {i:Nat} {rest:List Nat} {o:Oper} {Q:List Item->Act->wD->Prop} {a:Act} {w w1:wD} {v:vL} (ho:ops[i]? =some o) (hw:Region.wanted o (yielded ops a.tmps)=true)
  (hr:(execOp a.eval o).run P w= .ok (.value v) w1) (h:Comes P [.inRegion ops rest] Q (a.put o.dst v) w1):Comes P [.inRegion ops (i::rest)] Q a w:=by
 intro b k cs;obtain⟨it',a',w',q,s⟩:=h b k cs;have hg:=stepG_op (P:=P) (b:=b) (k:=k) (cs:=cs) (w:=w) (rest:=rest) ho hw;have hfin: ∀v,(b.at a (.inRegion ops (i::rest)::k)).finish v=b.at (a.put o.dst v) (.inRegion ops rest::k):=by
  intro v;rw[Frame.finish_at,ho];rfl
 refine⟨it',a',w',q,.head (step_lone_go ?_) s⟩
 change (stepG P true {frame:=b.at a (.inRegion ops (i::rest)::k),callers:=cs,status:= .running,dying:=none} w).bare=_
 rw[hg]
 show _=GStep.go {frame:=b.at (a.put o.dst v) (.inRegion ops rest::k),callers:=cs,status:= .running,dying:=none} w1
 rw[<-hfin];simp[stepG.apply,hr]
theorem KF {l l' T:Nat->Int}: ∀(n i:Nat),(∀k,k<i+n->l k=l' k)->fJ l T n i=fJ l' T n i
 | 0,_,_=>rfl
 |n+1,i,h=>by
  unfold fJ;rw[h i (by omega),KF n (i+1) (fun k hk=>h k (by omega))]
theorem WM (B:Bk) (hB:B.Fine) {l l' T:Nat->Int} (h: ∀k,k<6->l k=l' k):B.lack l T=B.lack l' T:=KF _ _ fun k hk=>h k (by have:=hB.links;omega)
section
variable (B:Bk) (T:Nat->Int) (h:Nat)
def DY (vA vB:vL) (w:wD) (it:List Item) (a:Act) (w':wD):Prop:=
 bX w.heap.size w w'/\ ∃ops o i j,it= [.inRegion ops [2]]/\ops[2]? =some o/\o.op= .send (.tmp i) (.tmp j)/\o.guard=none/\a.eval (.tmp i)=(if 0<=B.lackIn T true h then vA else vB)/\a.eval (.tmp j)=found B T h/\a.defers= []
end
theorem DZ {a w:wD} {p:Addr} {u:vL} (h:bX a.heap.size a w) (hn:a.heap.size<=p.block):bX a.heap.size a (w.setCell p u):=h.setCell hn u
theorem aoE {w w':wD} {c0 c1 c2 c3 c4 c5 c6 c7 c8 c9 c10 c11 o0 o1 o2 o3 o4 o5 o6 o7 o8 o9 o10 o11:Nat} {v0 v1 v2 v3 v4 v5 v6 v7 v8 v9 v10 v11:vL} (hB:bX w.heap.size w w') (k0:w.cell? ⟨c0,o0,none⟩=some v0) (k1:w.cell? ⟨c1,o1,none⟩=some v1) (k2:w.cell? ⟨c2,o2,none⟩=some v2) (k3:w.cell? ⟨c3,o3,none⟩=some v3) (k4:w.cell? ⟨c4,o4,none⟩=some v4) (k5:w.cell? ⟨c5,o5,none⟩=some v5) (k6:w.cell? ⟨c6,o6,none⟩=some v6) (k7:w.cell? ⟨c7,o7,none⟩=some v7) (k8:w.cell? ⟨c8,o8,none⟩=some v8) (k9:w.cell? ⟨c9,o9,none⟩=some v9) (k10:w.cell? ⟨c10,o10,none⟩=some v10) (k11:w.cell? ⟨c11,o11,none⟩=some v11):
  bX w.heap.size w w'/\w'.cell? ⟨c0,o0,none⟩=some v0/\w'.cell? ⟨c1,o1,none⟩=some v1/\w'.cell? ⟨c2,o2,none⟩=some v2/\w'.cell? ⟨c3,o3,none⟩=some v3/\w'.cell? ⟨c4,o4,none⟩=some v4/\w'.cell? ⟨c5,o5,none⟩=some v5/\w'.cell? ⟨c6,o6,none⟩=some v6/\w'.cell? ⟨c7,o7,none⟩=some v7/\w'.cell? ⟨c8,o8,none⟩=some v8/\w'.cell? ⟨c9,o9,none⟩=some v9/\w'.cell? ⟨c10,o10,none⟩=some v10/\w'.cell? ⟨c11,o11,none⟩=some v11:=
 ⟨hB,aoF hB k0 (nR _),aoF hB k1 (nR _),aoF hB k2 (nR _),aoF hB k3 (nR _),aoF hB k4 (nR _),aoF hB k5 (nR _),aoF hB k6 (nR _),aoF hB k7 (nR _),aoF hB k8 (nR _),aoF hB k9 (nR _),aoF hB k10 (nR _),aoF hB k11 (nR _)⟩
def KG (w:wD) (b:Nat) (x0 x1 x2:Int):Prop:=
 w.cell? ⟨b,0,none⟩=some (.int qi x0)/\w.cell? ⟨b,1,none⟩=some (.int qi x1)/\w.cell? ⟨b,2,none⟩=some (.int qi x2)/\w.frozen? ⟨b,0,none⟩=false/\w.frozen? ⟨b,1,none⟩=false/\w.frozen? ⟨b,2,none⟩=false
def K1 (bb hb trb b5 b6 b7:Nat) (p3 p4 y8 y9 y10 y11 y12 y13 y14 y15 y16 y17 y18 y19 y20 y21 y22 y23:vL):Act:=⟨#[.pointer (some ⟨bb,0,none⟩),.pointer (some ⟨hb,0,none⟩),.pointer (some ⟨trb,0,none⟩),p3,p4,.pointer (some ⟨b5,0,none⟩),.pointer (some ⟨b6,0,none⟩),.pointer (some ⟨b7,0,none⟩),y8,y9,y10,y11,y12,y13,y14,y15,y16,y17,y18,y19,y20,y21,y22,y23,ud,ud,ud,ud,ud,ud,ud,ud,ud,ud,ud,ud,ud,ud,ud,ud,ud,ud],[]⟩
theorem WQ (V:BkV) (B:Bk) (hB:B.Fine) (bb hb trb h tb tofs tcap b5 b6:Nat) (T:Nat->Int) (p3 p4:vL) (w:wD) (hT:bK w tb tofs B.links.length T) (hk:iT w V B bb hb trb h tb tofs tcap) (h5:Box w b5 (B.inn T true h))
  (id:Nat) (ops:Array Oper) (rest:Code) (he:lN= .seq (.region id ops true) rest) (Q:Exit->Act->wD->Prop)
  (hQ: ∀(b7:Nat) (y8 y9 y10 y11 y12 y13 y14 y15 y16 y17 y18 y19 y20 y21 y22 y23:vL) (w':wD),bX w.heap.size w w'->w.heap.size<=b7->KG w' b7 (h:Int) (B.lackIn T true h) 0->Q .normal (K1 bb hb trb b5 b6 b7 p3 p4 y8 y9 y10 y11 y12 y13 y14 y15 y16 y17 y18 y19 y20 y21 y22 y23) w'):
  (Code.region id ops true).wp tP Q (KA V B bb hb trb h tb tofs tcap p3 p4 (.pointer (some ⟨b5,0,none⟩)) (.pointer (some ⟨b6,0,none⟩)) (ldv (B.inn T true h)) (ldv (B.inn T false h))) w:=by
 obtain⟨ta,la,pa,tc,lc,pc⟩:=V;have HT:=Lib.hid hT;obtain⟨k0,k1,k2,k3,k4,k5,_,_⟩:=hk;obtain⟨k6,q6⟩:=h5 0 (by omega);obtain⟨k7,q7⟩:=h5 1 (by omega);obtain⟨k8,q8⟩:=h5 2 (by omega);obtain⟨k9,q9⟩:=h5 3 (by omega);obtain⟨k10,q10⟩:=h5 4 (by omega);obtain⟨k11,q11⟩:=h5 5 (by omega);clear hT h5;simp only[lN,Tryd.f68,Code.seq.injEq,Code.region.injEq] at he;obtain⟨⟨rfl,rfl,_⟩,_⟩:=he;simp only[KA,ldv];have hstart:bX w.heap.size w w.drew:=(Below.refl _ _).drew
 go_region_held3 (fun w'=>bX w.heap.size w w'/\w'.cell? ⟨bb,0,none⟩=some (.int qi B.hours)/\w'.cell? ⟨bb,1,none⟩=some (.slice ta B.towns.length tc)/\w'.cell? ⟨bb,2,none⟩=some (.slice la B.links.length lc)/\w'.cell? ⟨bb,3,none⟩=some (.slice pa B.pairs.length pc)/\w'.cell? ⟨hb,0,none⟩=some (.int qi (h:Int))/\w'.cell? ⟨trb,0,none⟩=some (.slice (some ⟨tb,tofs,none⟩) B.links.length tcap)/\w'.cell? ⟨b5,0,none⟩=some (.int qi (B.inn T true h 0))/\w'.cell? ⟨b5,1,none⟩=some (.int qi (B.inn T true h 1))/\w'.cell? ⟨b5,2,none⟩=some (.int qi (B.inn T true h 2))/\w'.cell? ⟨b5,3,none⟩=some (.int qi (B.inn T true h 3))/\w'.cell? ⟨b5,4,none⟩=some (.int qi (B.inn T true h 4))/\w'.cell? ⟨b5,5,none⟩=some (.int qi (B.inn T true h 5)))
  (first
   | (go_split_ands;refine aoE ?_ k0 k1 k2 k3 k4 k5 k6 k7 k8 k9 k10 k11;first |assumption |exact bM (by assumption) |exact bM (bM (by assumption)) | (refine DZ (DZ (DZ (by assumption) ?_) ?_) ?_<;>exact nR _)))
  (first
   | (go_simp;go_at_call 42;go_split_ands;(with_reducible refine(c70 ⟨ta,la,pa,tc,lc,pc⟩ B hB (B.inn T true h) tb tofs tcap T _ (HT.out.below (by assumption) (nR _))).mono ?_);rintro e w1 ⟨rfl,hbel⟩;have hw1:bX w.heap.size w w1:=qB (by assumption) hbel;obtain⟨hc,hf⟩:=ak hbel))
 ·go_split_ands;refine hQ _ _ _ _ _ _ _ _ _ _ _ _ _ _ _ _ _ _ (by assumption) hw1.size ?_;refine⟨?_, ?_, ?_, ?_, ?_, ?_⟩<;>(go_simp<;>rfl)
 ·go_split_ands;refine hQ _ _ _ _ _ _ _ _ _ _ _ _ _ _ _ _ _ _ (by assumption) (nR _) ?_;refine⟨?_, ?_, ?_, ?_, ?_, ?_⟩<;>(go_simp<;>rfl)
def six (a b:Nat->Int):Bool:=a 0==b 0&&a 1==b 1&&a 2==b 2&&a 3==b 3&&a 4==b 4&&a 5==b 5
theorem WS {a b:Nat->Int} (h:six a b=true): ∀k,k<6->a k=b k:=by
 simp only[six,Bool.and_eq_true,beq_iff_eq] at h;obtain⟨⟨⟨⟨⟨h0,h1⟩,h2⟩,h3⟩,h4⟩,h5⟩:=h;intro k hk
 match k,hk with
 | 0,_=>exact h0
 | 1,_=>exact h1
 | 2,_=>exact h2
 | 3,_=>exact h3
 | 4,_=>exact h4
 | 5,_=>exact h5
theorem WT (a b:Nat->Int) (w:wD):(Op.equalIn 10000 91 (.agg #[.int qi (a 0),.int qi (a 1),.int qi (a 2),.int qi (a 3),.int qi (a 4),.int qi (a 5)]) (.agg #[.int qi (b 0),.int qi (b 1),.int qi (b 2),.int qi (b 3),.int qi (b 4),.int qi (b 5)])).run tP w= .ok (six a b) w:=by
 have u3:=Tryd.underlying3;have a3:=Tryd.isAgg3;have z3:=Tryd.sizeOf3;rw[show (10000 :Nat)=9999+1 from rfl,Op.equalIn];simp only[Sem.run_bind,run_underlying Tryd.underlying91,Result.andThen_ok];simp only[Std.Legacy.Range.forIn_eq_forIn_range',Std.Legacy.Range.size,Nat.sub_zero,Nat.add_sub_cancel,Nat.div_one,List.range'_succ,List.range'_zero,List.forIn_cons,List.forIn_nil];go_simp;unfold six;by_cases h0:a 0=b 0<;>by_cases h1:a 1=b 1<;>by_cases h2:a 2=b 2<;>by_cases h3:a 3=b 3<;>by_cases h4:a 4=b 4<;>by_cases h5:a 5=b 5<;>simp[h0,h1,h2,h3,h4,h5]
noncomputable def KH:Code:=match lN with
 | .seq _ (.seq _ (.seq _ c))=>c
 |_=> .skip
def K2 (bb hb trb b5 b6 b7:Nat) (p3 p4 y8 y9 y10 y11 y12 y13 y14 y15 y16 y17 y18 y19 y20 y21 y22 y23 y24 y25 y26 y27 y28 y29 y30 y31 y32 y33 y34:vL):Act:=⟨#[.pointer (some ⟨bb,0,none⟩),.pointer (some ⟨hb,0,none⟩),.pointer (some ⟨trb,0,none⟩),p3,p4,.pointer (some ⟨b5,0,none⟩),.pointer (some ⟨b6,0,none⟩),.pointer (some ⟨b7,0,none⟩),y8,y9,y10,y11,y12,y13,y14,y15,y16,y17,y18,y19,y20,y21,y22,y23,y24,y25,y26,y27,y28,y29,y30,y31,y32,y33,y34,ud,ud,ud,ud,ud,ud,ud],[]⟩
theorem WU (B:Bk) (bb hb trb h b5 b6 b7 c3 c4:Nat) (T:Nat->Int) (y8 y9 y10 y11 y12 y13 y14 y15 y16 y17 y18 y19 y20 y21 y22 y23 y24 y25 y26 y27 y28 y29 y30 y31 y32 y33 y34 vA vB:vL) (W w:wD) (hW:bX W.heap.size W w)
  (f0:w.cell? ⟨b7,0,none⟩=some (.int qi (h:Int))) (f1:w.cell? ⟨b7,1,none⟩=some (.int qi (B.lackIn T true h))) (f2:w.cell? ⟨b7,2,none⟩=some (.int qi (B.lackIn T false h)))
  (e3:w.cell? ⟨c3,0,none⟩=some vB) (e4:w.cell? ⟨c4,0,none⟩=some vA) (hA: ∃x,vA= .chan x) (hB: ∃x,vB= .chan x):
  Comes tP [.code KH] (DY B T h vA vB W) (K2 bb hb trb b5 b6 b7 (.pointer (some ⟨c3,0,none⟩)) (.pointer (some ⟨c4,0,none⟩)) y8 y9 y10 y11 y12 y13 y14 y15 y16 y17 y18 y19 y20 y21 y22 y23 y24 y25 y26 y27 y28 y29 y30 y31 y32 y33 y34) w:=by
 obtain⟨xA,rfl⟩:=hA;obtain⟨xB,rfl⟩:=hB;simp only[KH,lN,Tryd.f68,K2];refine oD ?_;go_wp2;by_cases hl:B.lackIn T true h<0
 ·refine KD (t:=true) (by go_simp) ?_;simp only[if_true];refine KE ?_
  change Comes _ [.inRegion _ [0,1,2]] _ _ _
  refine AU (v:= .chan xB) (w1:=w) (by rfl) (by rfl) (by go_simp) ?_;refine AU (v:=found B T h) (w1:=w) (by rfl) (by rfl) (by unfold found;go_simp) ?_;exact dO ⟨hW,_,_,_,_,rfl,rfl,rfl,rfl,by rw[if_neg (by omega)];rfl,rfl,rfl⟩
 ·refine KD (t:=false) (by go_simp) ?_;simp only[Bool.false_eq_true,if_false];refine KE ?_
  change Comes _ [.inRegion _ [0,1,2]] _ _ _
  refine AU (v:= .chan xA) (w1:=w) (by rfl) (by rfl) (by go_simp) ?_;refine AU (v:=found B T h) (w1:=w) (by rfl) (by rfl) (by unfold found;go_simp) ?_;exact dO ⟨hW,_,_,_,_,rfl,rfl,rfl,rfl,by rw[if_pos (by omega)];rfl,rfl,rfl⟩
theorem WV (V:BkV) (B:Bk) (hB:B.Fine) (bb hb trb h tb tofs tcap b5 b6 b7 c3 c4:Nat) (T:Nat->Int) (y8 y9 y10 y11 y12 y13 y14 y15 y16 y17 y18 y19 y20 y21 y22 y23 vA vB:vL) (W w:wD) (hW:bX W.heap.size W w) (hn:W.heap.size<=b7) (hT:bK W tb tofs B.links.length T) (hk:iT W V B bb hb trb h tb tofs tcap) (h5:Box W b5 (B.inn T true h)) (h6:Box W b6 (B.inn T false h)) (h7:KG w b7 (h:Int) (B.lackIn T true h) 0)
  (e3:W.cell? ⟨c3,0,none⟩=some vB) (e4:W.cell? ⟨c4,0,none⟩=some vA) (hA: ∃x,vA= .chan x) (hvB: ∃x,vB= .chan x)
  (id:Nat) (ops:Array Oper) (rest:Code) (he:lN= .seq (.region id ops true) rest):
  Comes tP [.code rest] (DY B T h vA vB W) (K1 bb hb trb b5 b6 b7 (.pointer (some ⟨c3,0,none⟩)) (.pointer (some ⟨c4,0,none⟩)) y8 y9 y10 y11 y12 y13 y14 y15 y16 y17 y18 y19 y20 y21 y22 y23) w:=by
 have u5:b5<W.heap.size:=wBk W _ (h5 0 (by omega)).1;have u6:b6<W.heap.size:=wBk W _ (h6 0 (by omega)).1;have n0:bb<W.heap.size:=wBk W _ hk.b0;have n1:trb<W.heap.size:=wBk W _ hk.tr;have n4:c3<W.heap.size:=wBk W _ e3;have n5:c4<W.heap.size:=wBk W _ e4;have u7:b7<w.heap.size:=wBk w _ h7.1;have e3':=aoF hW e3 (nR _);have e4':=aoF hW e4 (nR _);have h5':=h5.below hW u5;have h6':=h6.below hW u6;have hk':=hk.below hW (nR _);have hw2:bX W.heap.size W (w.setCell ⟨b7,2,none⟩ (.int qi (B.lackIn T true h))):=hW.setCell hn _;have hT2:=hT.below hw2 (nR _);have hz2:(w.setCell ⟨b7,2,none⟩ (.int qi (B.lackIn T true h))).heap.size=w.heap.size:=by simp
 have HT:=Lib.hid hT2;have HW:=Lib.hid hw2;have HW0:=Lib.hid hW;obtain⟨ta,la,pa,tc,lc,pc⟩:=V;obtain⟨k0,k1,k2,k3,k4,k5,_,_⟩:=hk';obtain⟨f0,f1,f2,z0,z1,z2⟩:=h7;obtain⟨k6,q6⟩:=h5' 0 (by omega);obtain⟨k7,q7⟩:=h5' 1 (by omega);obtain⟨k8,q8⟩:=h5' 2 (by omega);obtain⟨k9,q9⟩:=h5' 3 (by omega);obtain⟨k10,q10⟩:=h5' 4 (by omega);obtain⟨k11,q11⟩:=h5' 5 (by omega);obtain⟨l6,r6⟩:=h6' 0 (by omega);obtain⟨l7,r7⟩:=h6' 1 (by omega);obtain⟨l8,r8⟩:=h6' 2 (by omega);obtain⟨l9,r9⟩:=h6' 3 (by omega);obtain⟨l10,r10⟩:=h6' 4 (by omega);obtain⟨l11,r11⟩:=h6' 5 (by omega);clear hT h5 h6 h5' h6' hk hW e3 e4 hT2 hw2;have s0:b7≠bb:=by omega
 have s1:b7≠trb:=by omega
 have s2:b7≠b5:=by omega
 have s3:b7≠b6:=by omega
 have s4:b7≠c3:=by omega
 have s5:b7≠c4:=by omega
 have hend:=fun y8 y9 y10 y11 y12 y13 y14 y15 y16 y17 y18 y19 y20 y21 y22 y23 y24 y25 y26 y27 y28 y29 y30 y31 y32 y33 y34 w'=>WU B bb hb trb h b5 b6 b7 c3 c4 T y8 y9 y10 y11 y12 y13 y14 y15 y16 y17 y18 y19 y20 y21 y22 y23 y24 y25 y26 y27 y28 y29 y30 y31 y32 y33 y34 vA vB W w';simp only[lN,Tryd.f68,Code.seq.injEq,Code.region.injEq] at he;obtain⟨-, rfl⟩:=he;simp only[K1];have heq:=WT (B.inn T false h) (B.inn T true h);refine oD ?_;go_wp2;refine oD ?_
 cases hs:six (B.inn T false h) (B.inn T true h) with
 |true=>
  rw[hs] at heq;have hll:B.lackIn T true h=B.lackIn T false h:=WM B hB fun k hk=>(WS hs k hk).symm;have HL:=Lib.hid hll;clear hll;clear hs;go_wp2;refine hend _ _ _ _ _ _ _ _ _ _ _ _ _ _ _ _ _ _ _ _ _ _ _ _ _ _ _ _ HW.out ?_ ?_ ?_ ?_ ?_ hA hvB
  ·go_simp
  ·go_simp
  ·rw[<-HL.out];go_simp
  ·go_simp
  ·go_simp
 |false=>
  rw[hs] at heq;clear hs
  go_wp2_with (first | (go_at_call 42;refine((c70 ⟨ta,la,pa,tc,lc,pc⟩ B hB (B.inn T false h) tb tofs tcap T _ HT.out)).mono ?_;rintro e w3 ⟨rfl,hb3⟩;(have h3:=(ak hb3).1 b7 0 (by rw[hz2];exact u7));(have h4:=(ak hb3).1 b7 1 (by rw[hz2];exact u7));(have h5:=(ak hb3).1 b7 2 (by rw[hz2];exact u7));(have h6:=(ak hb3).2 b7 2 (by rw[hz2];exact u7));(have h7:=(ak hb3).1 c3 0 (by rw[hz2];omega));(have h8:=(ak hb3).1 c4 0 (by rw[hz2];omega));(have HB3:=Lib.hid hb3);clear hb3))
  refine hend _ _ _ _ _ _ _ _ _ _ _ _ _ _ _ _ _ _ _ _ _ _ _ _ _ _ _ _ ((HW.out.trans (HB3.out.mono (by rw[hz2];exact HW0.out.size))).setCell hn _) ?_ ?_ ?_ ?_ ?_ hA hvB<;>(go_simp<;>rfl)
theorem Comes.mono {P:pQ} {it:List Item} {Q Q':List Item->Act->wD->Prop} {a:Act} {w:wD} (h:Comes P it Q a w) (hQ: ∀it a w,Q it a w->Q' it a w):Comes P it Q' a w:=fun b k cs=>
 let ⟨it',a',w',q,s⟩:=h b k cs
 ⟨it',a',w',hQ _ _ _ q,s⟩
theorem WW (V:BkV) (B:Bk) (hB:B.Fine) (bb hb trb h tb tofs tcap c3 c4:Nat) (T:Nat->Int) (vA vB:vL) (w:wD) (hat:bT w V B) (hT:bK w tb tofs B.links.length T) (hh:(h:Int)<B.hours) (hk:iT w V B bb hb trb h tb tofs tcap)
  (e3:w.cell? ⟨c3,0,none⟩=some vB) (e4:w.cell? ⟨c4,0,none⟩=some vA) (hA: ∃x,vA= .chan x) (hvB: ∃x,vB= .chan x):
  Comes tP [.code (Tryd.f68.body.getD .skip)] (DY B T h vA vB w) ⟨#[.pointer (some ⟨bb,0,none⟩),.pointer (some ⟨hb,0,none⟩),.pointer (some ⟨trb,0,none⟩),.pointer (some ⟨c3,0,none⟩),.pointer (some ⟨c4,0,none⟩),ud,ud,ud,ud,ud,ud,ud,ud,ud,ud,ud,ud,ud,ud,ud,ud,ud,ud,ud,ud,ud,ud,ud,ud,ud,ud,ud,ud,ud,ud,ud,ud,ud,ud,ud,ud,ud],[]⟩ w:=by
 show Comes tP [.code (.seq (.region 0 fA true) lN)] _ _ _
 refine oD (WL V B hB bb hb trb h tb tofs tcap T _ _ w hat hT hh hk _ (fun _ _ _ _ hq=>hq) fun b5 b6 w1 hb1 _ _ _ _ _ x5 x6=> ?_);obtain⟨id,ops,rest,he⟩: ∃id ops rest,lN= .seq (.region id ops true) rest:=⟨_,_,_,rfl⟩
 show Comes tP [.code lN] _ _ _
 rw[he];refine oD (WQ V B hB bb hb trb h tb tofs tcap b5 b6 T _ _ w1 (hT.below hb1 (nR _)) (hk.below hb1 (nR _)) x5 id ops rest he _ fun b7 y8 y9 y10 y11 y12 y13 y14 y15 y16 y17 y18 y19 y20 y21 y22 y23 w2 hb2 hn x7=> ?_);refine(WV V B hB bb hb trb h tb tofs tcap b5 b6 b7 c3 c4 T y8 y9 y10 y11 y12 y13 y14 y15 y16 y17 y18 y19 y20 y21 y22 y23 vA vB w1 w2 hb2 hn (hT.below hb1 (nR _)) (hk.below hb1 (nR _)) x5 x6 x7 (aoF hb1 e3 (nR _)) (aoF hb1 e4 (nR _)) hA hvB id ops rest he).mono ?_;rintro it a w' ⟨hb',x⟩;exact⟨hb1.trans (hb'.mono hb1.size),x⟩
end Go.Proofs.YtfiiffnbggnkfaaDoor
namespace Go.Tp
open Go.Conc
section
def iU (D:Nat->Prop) (u:wD) (b:Nat):Prop:=D b/\ ∃c t z,u.heap[b]? =some (.cells c t z)
def lQ (F:fI->Bool) (K:Nat->Prop):vL->Prop
 | .bool _ | .int .. | .string _ | .pointer none | .slice none .. | .chan _ | .nilFunc | .nilIface=>True
 | .pointer (some a)=>K a.block
 | .slice (some a) _ _=>K a.block
 | .func (.func f) a c=>F f=true/\a= #[]/\c= #[]
 |_=>False
open Classical in
noncomputable def kQ (F:fI->Bool) (K:Nat->Prop):vL->vL
 | .agg c=> .agg (c.attach.map fun x=>kQ F K x.1)
 | .tuple c=> .tuple (c.attach.map fun x=>kQ F K x.1)
 |v=>if lQ F K v then v else .tuple #[]
termination_by v=>v
decreasing_by
 all_goals
  have h:=Array.sizeOf_lt_of_mem x.2
  simp_wf
  omega
open Classical in
theorem KI {F:fI->Bool} {K:Nat->Prop} {v:vL} (h1: ∀c,v= .agg c->False) (h2: ∀c,v= .tuple c->False):kQ F K v=if lQ F K v then v else .tuple #[]:=by
 rw[kQ]
 ·exact h1
 ·exact h2
theorem KJ {F:fI->Bool} {K:Nat->Prop} {v:vL} (h:lQ F K v):kQ F K v=v:=by
 rw[KI (fun c e=>by subst e;exact h) (fun c e=>by subst e;exact h),if_pos h]
def RK (D:Nat->Prop) (u:wD):Rl:=⟨fun b b'=>b=b'/\iU D u b,fun r r'=>r=r',fun _=>False⟩
theorem lQ.vr {F:fI->Bool} {D:Nat->Prop} {u:wD} {v:vL} (h:lQ F (iU D u) v):VR F (RK D u) v v:=by
 cases v with
 |bool b=>exact .bool b
 |int k n=>exact .int k n
 |string s=>exact .string s
 |pointer a=>cases a with
  |none=>exact .nilPointer
  |some a=>obtain⟨b,o,s⟩:=a;exact .pointer (.mk o s ⟨rfl,h⟩)
 |slice a n c=>cases a with
  |none=>exact .nilSlice n c
  |some a=>obtain⟨b,o,s⟩:=a;exact .slice n c (.mk o s ⟨rfl,h⟩)
 |chan r=>cases r with
  |none=>exact .nilChan
  |some r=>exact .chan rfl
 |func f a c=>cases f with
  |func f=>
   obtain⟨h1,rfl,rfl⟩:=h;exact .func f h1 rfl (fun i v v' e=>by simp at e) rfl (fun i v v' e=>by simp at e)
  |_=>exact h.elim
 |nilFunc=>exact .nilFunc
 |nilIface=>exact .nilIface
 |_=>exact h.elim
theorem WX {F:fI->Bool} {D:Nat->Prop} {u:wD} {v:vL} (h1: ∀c,v= .agg c->False) (h2: ∀c,v= .tuple c->False):VR F (RK D u) (kQ F (iU D u) v) v:=by
 by_cases hn:lQ F (iU D u) v
 ·rw[KJ hn];exact hn.vr
 ·rw[KI h1 h2,if_neg hn];refine .poison ?_
  cases v with
  |agg c=>exact h1 c rfl
  |tuple c=>exact h2 c rfl
  |bool b=>exact hn trivial
  |_=>exact trivial
theorem Ea {F:fI->Bool} {D:Nat->Prop} {u:wD} (v:vL):VR F (RK D u) (kQ F (iU D u) v) v:=by
 match v with
 | .agg c=>
  rw[kQ];refine .agg (by simp) fun i x x' h h'=> ?_;have hm:=Array.mem_of_getElem? h';rw[Array.getElem?_map] at h;obtain⟨y,hy,rfl⟩:=Option.map_eq_some_iff.1 h;have:y.1=x':=by
   have:=congrArg (Option.map Subtype.val) hy;simp[h'] at this;exact this.symm
  rw[this];exact Ea x'
 | .tuple c=>
  rw[kQ];refine .tuple (by simp) fun i x x' h h'=> ?_;have hm:=Array.mem_of_getElem? h';rw[Array.getElem?_map] at h;obtain⟨y,hy,rfl⟩:=Option.map_eq_some_iff.1 h;have:y.1=x':=by
   have:=congrArg (Option.map Subtype.val) hy;simp[h'] at this;exact this.symm
  rw[this];exact Ea x'
 | .bool _ | .int .. | .float .. | .complex .. | .string _ | .pointer _ | .slice .. | .map _ | .chan _ | .func .. | .nilFunc | .iface .. | .nilIface=>exact WX (fun c e=>by cases e) (fun c e=>by cases e)
termination_by v
decreasing_by
 all_goals
  have h:=Array.sizeOf_lt_of_mem hm
  simp_wf
  omega
noncomputable def shut (F:fI->Bool) (K:Nat->Prop):Obj->Obj
 | .cells c t _=> .cells (c.map (kQ F K)) t (0,c.size)
 |_=> .cells #[] 0 (0,0)
noncomputable def frz (F:fI->Bool) (D:Nat->Prop) (u:wD):wD:={u with heap:=u.heap.map (shut F (iU D u))}
variable {F:fI->Bool} {D:Nat->Prop}
theorem Eb (u:wD) (b:Nat):(frz F D u).heap[b]? =(u.heap[b]?).map (shut F (iU D u)):=by simp[frz]
theorem WY (u:wD):(frz F D u).heap.size=u.heap.size:=by simp[frz]
theorem lT {u:wD} {a:Addr} {v:vL} (h:u.cell? a=some v) (hn:lQ F (iU D u) v):(frz F D u).cell? a=some v:=by
 unfold World.cell? at h ⊢;rw[Eb]
 cases e:u.heap[a.block]? with
 |none=>rw[e] at h;cases h
 |some o=>
  rw[e] at h
  cases o with
  |cells c t z=>
   simp only[Option.map_some,shut] at h ⊢
   split at h
   ·cases h
   ·rw[if_neg (by assumption),Array.getElem?_map,h,Option.map_some,KJ hn]
  |_=>cases h
theorem KN (u:wD):Started (frz F D u):=by
 intro n o h;rw[Eb] at h
 cases h':u.heap[n]? with
 |none=>rw[h'] at h;simp at h
 |some x=>
  rw[h'] at h;simp only[Option.map_some,oI] at h;subst h
  cases x<;>simp[shut,Obj.started]
theorem sH {u:wD} {a:Addr} {v:vL} (h:u.cell? a=some v): ∃c t z,u.heap[a.block]? =some (.cells c t z):=by
 unfold World.cell? at h
 cases e:u.heap[a.block]? with
 |none=>rw[e] at h;cases h
 |some o=>
  rw[e] at h
  cases o with
  |cells c t z=>exact⟨c,t,z,rfl⟩
  |_=>cases h
theorem WZ {P:pQ} {u:wD} (hg:P.globals.size<=u.heap.size):WR P F (RK D u) ((frz F D u).tp u.tape u.drawn noJ) u:=by
 have hsz:((frz F D u).tp u.tape u.drawn noJ).heap.size=u.heap.size:=by rw[gJ,WY]
 refine⟨fun b b' h=> ?_,fun b b1 b2 h1 h2=>h1.1.symm.trans h2.1,fun b1 b2 b' h1 h2=>h1.1.trans h2.1.symm,fun b b' o h hb=> ?_,fun b b' h _=>h.1,rfl,rfl,by rw[hsz];exact hg,hg⟩
 ·obtain⟨rfl,_,c,t,z,h1⟩:=h;rw[hsz];have:=(Array.getElem?_eq_some_iff.1 h1).1;exact⟨this,this⟩
 ·obtain⟨rfl,_,c,t,z,h1⟩:=h;rw[dX,Eb,h1] at hb;simp only[Option.map_some,Cj,oI] at hb;subst hb;refine⟨.cells c t z,h1,.cells ⟨by simp,fun i v v' e e'=> ?_⟩ (fun x=>x.elim) (fun _=>by simp)⟩;rw[Array.getElem?_map,e',Option.map_some,oI] at e;subst e;exact Ea v'
end
end Go.Tp
namespace Go.Tp
section
variable {P:pQ}
theorem KO (v:vL):ah P (Extern.RuntimeError.described v):=by
 unfold Extern.RuntimeError.described;refine aF (vS P) fun p=> ?_
 split
 ·exact dI _ _
 ·refine aF (Iw P _) fun _=> ?_;exact aF (Iu P _) fun _=>dI _ _
 ·exact gZ P _ _
theorem Xa (i:TypeInfo):ah P (Extern.RuntimeError.pkgpathOf i):=by
 unfold Extern.RuntimeError.pkgpathOf
 (repeat' first
  |exact dI _ _
  |exact IsCalm.out
  | (refine aF ?_ (fun _=> ?_))
  |split)
theorem Xb (args:Array vL):ah P (Extern.RuntimeError.boundsError args):=by
 obtain⟨l⟩:=args
 rcases l with _ |⟨a,_ |⟨b,l⟩⟩<;>try exact gZ P _ _
 cases a<;>try exact gZ P _ _
 rename_i c;obtain⟨c⟩:=c
 rcases c with _ |⟨c1,_ |⟨c2,_ |⟨c3,_ |⟨c4,_ |⟨c5,c⟩⟩⟩⟩⟩<;>try exact gZ P _ _
 ·cases c1<;>try exact gZ P _ _
  cases c2<;>try exact gZ P _ _
  cases c3<;>try exact gZ P _ _
  cases c4<;>try exact gZ P _ _
  rename_i k1 x k2 y sg k3 cd
  show ah P (match (if (sg&&decide (x<0))=true then Extern.RuntimeError.boundsNegErrorFmts else Extern.RuntimeError.boundsErrorFmts)[cd.toNat]? with |some fmt=>Extern.RuntimeError.text _ |none=>stuck "boundsError: no such code")
  cases(if (sg&&decide (x<0))=true then Extern.RuntimeError.boundsNegErrorFmts else Extern.RuntimeError.boundsErrorFmts)[cd.toNat]? with
  |some fmt=>exact dI _ _
  |none=>exact gZ P _ _
theorem Xc (args:Array vL):ah P (Extern.RuntimeError.typeAssertionError args):=by
 haveI: ∀v,IsCalm P (Extern.RuntimeError.described v):=fun v=>⟨KO v⟩
 haveI: ∀i,IsCalm P (Extern.RuntimeError.pkgpathOf i):=fun i=>⟨Xa i⟩
 unfold Extern.RuntimeError.typeAssertionError Extern.RuntimeError.text
 (repeat' first
  |exact dI _ _
  |exact IsCalm.out
  | (refine aF ?_ (fun _=> ?_))
  | (refine jG (fun _=> ?_) (fun _=> ?_))
  |split
  |dsimp only)
theorem Xd (args:Array vL):ah P (Extern.RuntimeError.unhashableTypeError args):=by
 obtain⟨l⟩:=args
 rcases l with _ |⟨a,_ |⟨b,l⟩⟩<;>try exact gZ P _ _
 cases a<;>try exact gZ P _ _
 rename_i c;obtain⟨c⟩:=c
 rcases c with _ |⟨c1,_ |⟨c2,c⟩⟩<;>try exact gZ P _ _
 refine aF (KO c1) fun r=> ?_
 cases r with
 |none=>exact IB P _
 |some t=>exact dI _ _
theorem Xe {n:String} {e:Array vL->Sem vL} (h:(n,e)∈Extern.RuntimeError.rows) (args:Array vL):ah P (e args):=by
 simp only[Extern.RuntimeError.rows,List.mem_cons,List.not_mem_nil,or_false,Prod.mk.injEq] at h
 rcases h with ⟨_,rfl⟩ |⟨_,rfl⟩ |⟨_,rfl⟩ |⟨_,rfl⟩ |⟨_,rfl⟩ |⟨_,rfl⟩ |⟨_,rfl⟩ |⟨_,rfl⟩ |⟨_,rfl⟩ |⟨_,rfl⟩ |⟨_,rfl⟩ |⟨_,rfl⟩ |⟨_,rfl⟩ |⟨_,rfl⟩ |⟨_,rfl⟩
 ·exact aF (vV P _) fun _=>dI _ _
 ·exact aF (vV P _) fun _=>dI _ _
 ·exact aF (Dc P _) fun _=>aF (vV P _) fun _=>dI _ _
 ·exact aF (Dc P _) fun _=>aF (CZ P _) fun _=>dI _ _
 ·exact Xb args
 ·exact Xc args
 ·exact dI _ _
 ·exact Xd args
 all_goals exact dI _ _
def KP (P:pQ) (fn:Func):Prop:=(fn.name== "runtime.NumGoroutine")=false/\(fn.body.isSome=true\/(Extern.findNext fn=none/\(Extern.find fn=none\/ ∃e,Extern.find fn=some e/\ ∀args,ah P (e args))))
theorem Xf (h: ∀(f:fI) (fn:Func),P.funcs[f]? =some fn->KP P fn):rU P:=by
 intro f args
 show Calm P jH (callFunc f args)
 unfold callFunc
 show Calm P jH (match P.funcs[f]? with
  |none=>_
  |some fn=>_)
 cases hf:P.funcs[f]? with
 |none=>exact gZ P _ _
 |some fn=>
  obtain⟨h1,h2⟩:=h f fn hf;dsimp only;rw[h1];simp only[Bool.false_eq_true,if_false]
  rcases h2 with h2 |⟨h2,h3⟩
  ·have:fn.body.isNone=false:=by cases hb:fn.body<;>simp_all
   rw[this];simp only[Bool.false_eq_true,if_false];exact trivial
  ·cases hb:fn.body with
   |some b=>exact trivial
   |none=>
    simp only[Option.isNone_none,if_true,h2];refine aF (Qa P f) fun _=> ?_
    rcases h3 with h3 |⟨e,h3,h4⟩
    ·rw[h3];dsimp only
     split
     ·exact trivial
     ·exact trivial
    ·rw[h3];exact rV (h4 args)
def kR {α:Type} (P:pQ) (A:α->Prop) (s:Sem α):Prop:= ∀w es a w1 es1,s.runT P w es=(.ok a w1,es1)->A a
theorem qC {α β:Type} {A:α->Prop} {B:β->Prop} {s:Sem α} {f:α->Sem β} (h:kR P A s) (hf: ∀a,A a->kR P B (f a)):kR P B (s >>= f):=by
 intro w es b w1 es1 hr;rw[runT_bind] at hr
 cases hs:s.runT P w es with
 |mk r es2=>
  rw[hs] at hr
  cases r with
  |ok a w2=>exact hf a (h _ _ _ _ _ hs) _ _ _ _ _ hr
  |halt x w2=>cases hr
theorem AV {α:Type} (s:Sem α):kR P (fun _=>True) s:=fun _ _ _ _ _ _=>trivial
theorem Xg {α:Type} {A:α->Prop} {a:α} (h:A a):kR P A (pure a):=fun _ _ _ _ _ hr=>by cases hr;exact h
theorem Ec {α:Type} {A:α->Prop} (x:Halt):kR P A (.halt x:Sem α):=fun _ _ _ _ _ hr=>by cases hr
theorem Xh (t:TypeId):kR P (fun i=>P.info? t=some i) (typeInfo t):=by
 intro w es a w1 es1 hr;have:(typeInfo t).runT P w es=(match P.info? t with |some i=>(pure i:Sem TypeInfo) |none=>stuck "no such type").runT P w es:=rfl;rw[this] at hr
 cases h:P.info? t with
 |none=>rw[h] at hr;cases hr
 |some i=>rw[h] at hr;cases hr;rfl
def qE (P:pQ) (s:String) (f:fI):Prop:= ∃t i m b,P.info? t=some i/\m∈i.methods/\m.func=some (f,b)/\m.name=s
theorem KQ: ∀(n:Nat) (t:TypeId) (v:vL) (s:String),kR P (fun r=>qE P s r.1) (method n t v s)
 | 0,_,_,_=>Ec _
 |n+1,t,v,s=>by
  unfold method;refine qC (Xh t) fun i hi=> ?_
  cases hm:i.methods.find? (fun x=>x.name==s) with
  |none=>exact Ec _
  |some m=>
   dsimp only;refine qC (AV _) fun r _=> ?_;obtain⟨xt,x⟩:=r;dsimp only
   cases hf:m.func with
   |none=>
    refine qC (AV _) fun y _=> ?_
    cases y with
    |iface t' v'=>exact KQ n t' v' s
    |nilIface=>exact fun w es a w1 es1 hr=>absurd hr (Ah (P:=P) .nilDeref w es a w1 es1)
    |_=>exact Ec _
   |some q=>
    obtain⟨f,b⟩:=q;exact qC (AV _) fun _ _=>Xg ⟨t,i,m,b,hi,Array.mem_of_find?_eq_some hm,hf,by have:=Array.find?_some hm;simpa using this⟩
theorem Xi {info:TypeId->Option TypeInfo} {fs:Array Field} {i:TypeInfo} (h:Made.reckonStruct info fs=some i):i.methods= #[]:=by
 unfold Made.reckonStruct at h;simp only[bind,Option.bind_eq_some_iff] at h;obtain⟨_,_,h⟩:=h
 (repeat' split at h)<;>first
  | (simp only[pure,oI] at h;subst h;rfl)
  | (simp only[Option.bind_eq_some_iff,pure,oI] at h;obtain⟨_,_,h⟩:=h;subst h;rfl)
theorem Xj {info:TypeId->Option TypeInfo} {d:TypeDesc} {i:TypeInfo} (h:Made.reckon info d=some i):i.methods= #[]:=by
  unfold Made.reckon at h
  cases d<;>first
    | (cases h;done)
    |exact Xi h
    | (simp only[bind,Option.bind_eq_some_iff,pure,oI] at h
       obtain⟨_,_,h⟩:=h
       (repeat' split at h)<;>first
         | (cases h;done)
         | (subst h;rfl)
         | (obtain⟨_,_,h⟩:=h;subst h;rfl)
         | (simp only[Option.bind_eq_some_iff] at h;obtain⟨_,_,h⟩:=h;first | (subst h;rfl) | (simp only[oI] at h;subst h;rfl)))
    | (simp only[bind,Option.bind_eq_some_iff,pure,oI] at h
       obtain⟨_,_,_,_,_,_,_,_,h⟩:=h;subst h;rfl)
theorem Xk (T:Tables): ∀(n:Nat) (t:TypeId) (i:TypeInfo),Made.infoAt T n t=some i->i∈T.types\/i.methods= #[]
 | 0,_,_,h=>by cases h
 |n+1,t,i,h=>by
  unfold Made.infoAt at h
  split at h
  ·exact .inl (Array.mem_of_getElem? h)
  ·simp only[Option.bind_eq_some_iff] at h;obtain⟨_,_,h⟩:=h;exact .inr (Xj h)
theorem Xl (T:Tables) {t:TypeId} {i:TypeInfo} (h:T.info? t=some i):i∈T.types\/i.methods= #[]:=by
 unfold Tables.info? at h
 split at h
 ·exact .inl (Array.mem_of_getElem? h)
 ·exact Xk T _ _ _ h
theorem Xm {v:vL} {t:TypeId} {recv:vL} {name:String} (h:panicText P false v= .call t recv name):name= "Error" \/name= "String" :=by
 cases v with
 |iface t0 v0=>
  unfold panicText at h;dsimp only at h
  cases hi:P.info? t0 with
  |none=>rw[hi] at h;cases h
  |some info=>
   rw[hi] at h;dsimp only at h
   split at h
   ·rename_i m _ hm
    cases h
    try simp only[Bool.false_eq_true,if_false] at hm
    have:=Array.find?_some hm;simp only[Bool.and_eq_true,beq_iff_eq] at this;exact .inl this.1
   ·rename_i m _ hm
    cases h
    try simp only[Bool.false_eq_true,if_false] at hm
    have:=Array.find?_some hm;simp only[Bool.and_eq_true,beq_iff_eq] at this;exact .inr this.1
   ·(repeat' split at h)<;>cases h
 |_=>cases h
theorem Xn (h: ∀f,(qE P "Error" f\/qE P "String" f)-> ∃fn,P.funcs[f]? =some fn/\fn.body=none/\(Extern.findNext fn).isNone=true): ∀todo,NoEnter P todo:=by
 intro todo x _ t recv name hpt w f args w' hr;have hname:=Xm hpt;have key:kR P (fun n=> ∀f a,n≠ .enter f a) (invoke (.fn (.method name) #[]) #[.iface t recv]):=by
  show kR P _ (callMethod (.iface t recv) name (#[.iface t recv].extract 1 1))
  unfold callMethod;refine qC (AV (P:=P) program) fun p _=> ?_;refine qC (KQ _ t recv name) fun r hr=> ?_;obtain⟨fn,h1,h2,h3⟩:=h r.1 (hname.elim (fun e=> .inl (by rw[<-e];exact hr)) fun e=> .inr (by rw[<-e];exact hr));intro w es a w1 es1 hx f b e;subst e;have:=callFunc_not_enter h1 h2 h3 (#[r.2]++(#[Value.iface t recv].extract 1 1)) w f b w1;rw[Sem.runT_eq] at hx;exact this (Prod.mk.inj hx).1
 exact key w #[] (.enter f args) w' _ (Prod.ext hr rfl) f args rfl
end
end Go.Tp
