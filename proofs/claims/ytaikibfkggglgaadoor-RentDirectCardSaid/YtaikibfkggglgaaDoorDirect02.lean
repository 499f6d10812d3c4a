/- A part of the proof of a law; no conditions of its own. -/
import Derived.Test.YtaikibfkggglgaaDoorDirect01
set_option maxRecDepth 100000
open Go renaming undef→ud
open Nat renaming le_refl→nR
open Go.Lib renaming hid→lH
open Go.RowKit.Below renaming refl→bR
open Go.Proofs.Tryd renaming prog→tP
open List renaming getElem?_eq_getElem→lG
open List renaming getElem?_eq_some_iff→lS
open Go.World renaming cell?_setCell_far→wF
open List renaming getD_eq_getElem?_getD→lD
set_option maxHeartbeats 4000000
namespace Go.Proofs.YtaikibfkggglgaaDoor
open Go.RowKit Go.Rent Go.Tp Go.Conc
def agd (p q:Pr):Prop:=q.one=p.one/\q.two=p.two/\q.calls.length=p.calls.length/\ ∀(m:Nat) (x y:Int×Int),p.calls[m]? =some x->q.calls[m]? =some y->0<=x.1/\x.1<=x.2/\x.1<=y.1/\x.2<=y.2
structure Dom (A B:Bk):Prop where
 hours:B.hours=A.hours
 towns:B.towns=A.towns
 links:B.links=A.links
 len:B.pairs.length=A.pairs.length
 at_: ∀(i:Nat) (p q:Pr),A.pairs[i]? =some p->B.pairs[i]? =some q->agd p q
theorem afZ {α β:Type} {l:List α} {m:List β} (h:m.length=l.length) (i:Nat):(∃x y,l[i]? =some x/\m[i]? =some y)\/(l[i]? =none/\m[i]? =none):=by
 by_cases hi:i<l.length
 ·exact .inl ⟨_,_,lG hi,lG (by omega)⟩
 ·exact .inr ⟨List.getElem?_eq_none (by omega),List.getElem?_eq_none (by omega)⟩
theorem Dom.calls {A B:Bk} (d:Dom A B) (most:Bool) (h i:Nat):A.call most h i<=B.call most h i:=by
 unfold Bk.call
 rcases afZ d.len i with ⟨p,q,h1,h2⟩ |⟨h1,h2⟩
 ·obtain⟨_,_,hl,hc⟩:=d.at_ i p q h1 h2;rw[h1,h2];simp only[Option.bind_some]
  rcases afZ hl h with ⟨x,y,g1,g2⟩ |⟨g1,g2⟩
  ·have:=hc h x y g1 g2;rw[g1,g2]
   cases most<;>simp<;>omega
  ·rw[g1,g2];simp
 ·rw[h1,h2];simp
theorem agI {p q:Pr} (h:agd p q) (hb:jc q.calls=false):jc p.calls=false:=by
 obtain⟨_,_,hl,hc⟩:=h;unfold jc at *;rw[List.any_eq_false] at *;intro x hx;obtain⟨m,hm,rfl⟩:=List.getElem_of_mem hx;have h1:=lG hm;have h2:=lG (show m<q.calls.length by omega);have h3:=hc m _ _ h1 h2;have h4:=hb _ (List.getElem_mem (show m<q.calls.length by omega));simp only[dw,Bool.not_eq_true',decide_eq_false_iff_not,Decidable.not_not] at *;omega
theorem agn {nt hours:Int}: ∀(ps qs:List Pr) (S:List (Int×Int)),qs.length=ps.length->(∀(i:Nat) (p q:Pr),ps[i]? =some p->qs[i]? =some q->agd p q)->fP nt hours S qs=0->fP nt hours S ps=0
 | [],_,_,_,_,_=>rfl
 |p::ps,[],_,h,_,_=>by simp at h
 |p::ps,q::qs,S,h,hp,h0=>by
  have h1:=hp 0 p q rfl rfl;have h1':=h1;obtain⟨e1,e2,e3,_⟩:=h1;unfold fP at h0 ⊢;rw[e1,e2,e3] at h0
  split at h0
  ·cases h0
  rename_i c1;rw[if_neg c1]
  split at h0
  ·cases h0
  rename_i c2;rw[if_neg c2]
  split at h0
  ·cases h0
  rename_i c3;rw[if_neg c3]
  split at h0
  ·rename_i c4;rw[if_pos c4]
   split at h0
   ·cases h0
   rename_i c5;rw[if_neg (by rw[agI h1' (by simpa using c5)];decide)];exact agn ps qs _ (by simpa using h) (fun i a b ha hb=>hp (i+1) a b (by simpa using ha) (by simpa using hb)) h0
  ·cases h0
theorem agq {B:Bk} (h0:iZ B.hours=0) (h1:fM B.towns=0) (h2:dA B.towns.length B.links=0):B.alarm=dR B.towns.length B.hours B.pairs:=by
 unfold Bk.alarm;simp only[kH,alK];rw[if_pos h0,if_pos h1,if_pos h2]
 split
 ·rename_i h;exact h.symm
 ·rfl
theorem Dom.alarm {A B:Bk} (d:Dom A B) (h:B.alarm=0):A.alarm=0:=by
 obtain⟨h0,h1,h2,h3⟩:=GX h;rw[d.hours] at h0 h3;rw[d.towns] at h1 h2 h3;rw[d.links] at h2;rw[agq h0 h1 h2];unfold dR at h3 ⊢;rw[d.len] at h3
 split at h3
 ·cases h3
 ·rename_i c;rw[if_neg c];exact agn _ _ _ d.len d.at_ h3
theorem ais {nt:Int}: ∀(l:List Lnk) (k:Nat) (S:List (Int×Int)),(∀(j:Nat) (x:Lnk),l[j]? =some x->btw x.one 0 (nt-1)=true/\btw x.two 0 (nt-1)=true/\ ¬dD nt (k+j) x.one x.two/\bJ x.steps=0/\bZ S x.one x.two=false)->
  (∀(i j:Nat) (x y:Lnk),i<j->l[i]? =some x->l[j]? =some y-> ¬(x.one=y.one/\x.two=y.two))->fO nt k S l=0
 | [],_,_,_,_=>rfl
 |x::l,k,S,h,hd=>by
  obtain⟨h1,h2,h3,h4,h5⟩:=h 0 x rfl;unfold fO;rw[if_neg (by rw[h1,h2];decide),if_neg (by simpa using h3),if_neg (by rw[h5];decide),if_pos h4];refine ais l (k+1) _ (fun j y hy=> ?_) fun i j a b hij ha hb=>hd (i+1) (j+1) a b (by omega) (by simpa using ha) (by simpa using hb);obtain⟨g1,g2,g3,g4,g5⟩:=h (j+1) y (by simpa using hy);refine⟨g1,g2,by rw[show k+1+j=k+(j+1) by omega];exact g3,g4, ?_⟩;rw[Ce,g5,Bool.or_false];have:=hd 0 (j+1) x y (by omega) rfl (by simpa using hy);simpa using this
theorem ait {nt hours:Int}: ∀(l:List Pr) (S:List (Int×Int)),(∀(j:Nat) (x:Pr),l[j]? =some x->btw x.one 0 (nt-1)=true/\btw x.two 0 (nt-1)=true/\x.one<x.two/\(x.calls.length:Int)=hours/\jc x.calls=false/\bZ S x.one x.two=false)->
  (∀(i j:Nat) (x y:Pr),i<j->l[i]? =some x->l[j]? =some y-> ¬(x.one=y.one/\x.two=y.two))->fP nt hours S l=0
 | [],_,_,_=>rfl
 |x::l,S,h,hd=>by
  obtain⟨h1,h2,h3,h4,h5,h6⟩:=h 0 x rfl;unfold fP;rw[if_neg (by rw[h1,h2];decide),if_neg (by omega),if_neg (by rw[h6];decide),if_pos h4,if_neg (by rw[h5];decide)];refine ait l _ (fun j y hy=> ?_) fun i j a b hij ha hb=>hd (i+1) (j+1) a b (by omega) (by simpa using ha) (by simpa using hb);obtain⟨g1,g2,g3,g4,g5,g6⟩:=h (j+1) y (by simpa using hy);refine⟨g1,g2,g3,g4,g5, ?_⟩;rw[Ce,g6,Bool.or_false];have:=hd 0 (j+1) x y (by omega) rfl (by simpa using hy);simpa using this
theorem aiP {B:Bk} (h:B.alarm=0) {i j:Nat} {x y:Lnk} (hne:i≠j) (hx:B.links[i]? =some x) (hy:B.links[j]? =some y): ¬(x.one=y.one/\x.two=y.two):=by
 obtain⟨_,_,h2,_⟩:=GX h;unfold dA at h2
 split at h2
 ·have:=(adT _ _ _ h2).2
  rcases Nat.lt_or_ge i j with c |c
  ·exact this i j x y c hx hy
  ·intro e;exact this j i y x (by omega) hy hx ⟨e.1.symm,e.2.symm⟩
 ·cases h2
theorem aiQ {B:Bk} (h:B.alarm=0) {i j:Nat} {x y:Pr} (hne:i≠j) (hx:B.pairs[i]? =some x) (hy:B.pairs[j]? =some y): ¬(x.one=y.one/\x.two=y.two):=by
 obtain⟨_,_,_,h3⟩:=GX h;unfold dR at h3
 split at h3
 ·cases h3
 have:=(FQ _ _ h3).2
 rcases Nat.lt_or_ge i j with c |c
 ·exact this i j x y c hx hy
 ·intro e;exact this j i y x (by omega) hy hx ⟨e.1.symm,e.2.symm⟩
theorem aiu {A B:Bk} (hB:B.alarm=0) (e1:A.hours=B.hours) (e2:A.towns=B.towns) (hl1:B.spokes<=A.links.length) (hl2:A.links.length<=B.links.length) (hp:A.pairs.length<=B.pairs.length)
  (σ π:Nat->Nat) (hσ: ∀(j:Nat) (x:Lnk),A.links[j]? =some x->B.links[σ j]? =some x/\(j<B.spokes->σ j=j)/\(B.spokes<=j->B.spokes<=σ j)) (iσ: ∀i j,i<j->j<A.links.length->σ i≠σ j)
  (hπ: ∀(j:Nat) (x:Pr),A.pairs[j]? =some x->B.pairs[π j]? =some x) (iπ: ∀i j,i<j->j<A.pairs.length->π i≠π j):A.alarm=0:=by
 obtain⟨h0,h1,h2,h3⟩:=GX hB;have hG:=gY hB;have hf:=hG.fine;have ht:=hf.towns;have hll:=hf.links;have hsp:B.spokes=B.towns.length-1:=rfl;have hL:dA A.towns.length A.links=0:=by
  unfold dA;rw[e2,if_pos (by simp[btw];omega)];refine ais _ _ _ (fun j x hx=> ?_) fun i j x y hij hx hy=> ?_
  ·obtain⟨g1,g2,g3⟩:=hσ j x hx;obtain⟨k1,k2,k3,k4⟩:=hG.links _ x g1;refine⟨k1,k2, ?_,k4,rfl⟩;rw[Nat.zero_add];unfold dD at k3 ⊢;by_cases c:j<B.spokes
   ·rw[g2 c] at k3;exact k3
   ·have:=g3 (by omega);omega
  ·exact aiP hB (iσ i j hij (lS.1 hy).1) (hσ i x hx).1 (hσ j y hy).1
 rw[agq (by rw[e1];exact h0) (by rw[e2];exact h1) hL,e1,e2];have hpp:=hf.pairs;unfold dR;rw[if_neg (by omega)];refine ait _ _ (fun j x hx=> ?_) fun i j x y hij hx hy=> ?_
 ·obtain⟨k1,k2,k3,k4,k5⟩:=hG.pairs _ x (hπ j x hx);exact⟨k1,k2,k3,k4,k5,rfl⟩
 ·exact aiQ hB (iπ i j hij (lS.1 hy).1) (hπ i x hx) (hπ j y hy)
structure Emb (A B:Bk) (σ:Nat->Nat):Prop where
 alA:A.alarm=0
 alB:B.alarm=0
 sp:B.spokes=A.spokes
 hours:B.hours=A.hours
 rng: ∀j,A.spokes<=j->j<A.links.length->A.spokes<=σ j/\σ j<B.links.length/\B.one (σ j)=A.one j/\B.two (σ j)=A.two j
structure Rel (A B:Bk) (σ:Nat->Nat) (T U:Nat->Int):Prop where
 hub: ∀k,k<A.spokes->U k=T k
 dir: ∀j,A.spokes<=j->j<A.links.length->U (σ j)=T j
 no: ∀k,A.spokes<=k->k<B.links.length->(∀j,A.spokes<=j->j<A.links.length->σ j≠k)->U k=0
section
variable {A B:Bk} {σ:Nat->Nat} {T U:Nat->Int}
theorem Emb.direct (e:Emb A B σ) (a b:Int) (c:0<=A.direct a b):B.direct a b=(σ (A.direct a b).toNat:Nat):=by
 have dirA:=pF A (gY e.alA).fine a b;obtain⟨j,hj⟩: ∃j:Nat,A.direct a b=(j:Int):=⟨_,(Int.toNat_of_nonneg c).symm⟩;obtain⟨r1,r2,r3,r4⟩:=e.rng j (by omega) (by omega);have hb:=(aes e.alA a b (j:=j) (by omega) (by omega)).2 hj;rw[hj,Int.toNat_natCast];exact(aes e.alB a b (j:=σ j) (by have:=e.sp;omega) r2).1 ⟨r3.trans hb.1,r4.trans hb.2⟩
theorem Emb.free (e:Emb A B σ) (r:Rel A B σ T U) (a b:Int):adr B U a b=adr A T a b:=by
 have dirA:=pF A (gY e.alA).fine a b;have dirB:=pF B (gY e.alB).fine a b;have hs:=e.sp;unfold adr;by_cases c:0<=A.direct a b
 ·rw[e.direct a b c,if_pos c,if_pos (by omega),Int.toNat_natCast];exact r.dir _ (by omega) (by omega)
 ·rw[if_neg c];by_cases d:0<=B.direct a b
  ·rw[if_pos d];obtain⟨k,hk⟩: ∃k:Nat,B.direct a b=(k:Int):=⟨_,(Int.toNat_of_nonneg d).symm⟩;rw[hk,Int.toNat_natCast];refine r.no k (by omega) (by omega) fun j h1 h2 hjk=> ?_;obtain⟨r1,r2,r3,r4⟩:=e.rng j h1 h2;rw[hjk] at r2 r3 r4;have hB:=(aes e.alB a b (j:=k) (by omega) r2).2 hk;have:=(aes e.alA a b (j:=j) h1 h2).1 ⟨r3.symm.trans hB.1,r4.symm.trans hB.2⟩;omega
  ·rw[if_neg d]
theorem Emb.add (e:Emb A B σ) (r:Rel A B σ T U) (n a b:Int) {k:Nat} (hk:k<A.spokes):incr B U n a b k=incr A T n a b k:=by
 have dirA:=pF A (gY e.alA).fine a b;have dirB:=pF B (gY e.alB).fine a b;have hs:=e.sp;unfold incr;rw[e.free r,if_neg (show ¬B.direct a b=k by omega),if_neg (show ¬A.direct a b=k by omega)]
end
theorem aiv {A B:Bk} {T U:Nat->Int}: ∀n i c,(∀h,i<=h->h<i+n-> ∀m,(B.lackIn U m h<0↔A.lackIn T m h<0))->aQ B U n i c=aQ A T n i c
 | 0,_,_,_=>rfl
 |n+1,i,c,hh=>by
  unfold aQ;have h1:=hh i (nR _) (by omega) false;have h2:=hh i (nR _) (by omega) true;have e:(if 0<=B.lackIn U true i then (0 :Int) else c)=if 0<=A.lackIn T true i then 0 else c:=by
   split<;>split<;>first |rfl |omega
  rw[e,aiv n (i+1) _ fun h a b=>hh h (by omega) (by omega)]
  split<;>split<;>first |rfl |omega
theorem aiw {A B:Bk} {T U:Nat->Int} (hh:B.hours=A.hours) (hs:B.spokes=A.spokes) (hu: ∀k,k<A.spokes->U k=T k) (hl: ∀m h k,k<A.spokes->B.inn U m h k=A.inn T m h k) (c:Int):aQ B U B.hours.toNat 0 c=aQ A T A.hours.toNat 0 c:=by
 rw[hh];refine aiv _ _ _ fun h _ _ m=> ?_;rw[vC,vC,hs];refine⟨fun q j hj=> ?_,fun q j hj=> ?_⟩<;>have h1:=q j hj<;>have h2:=hl m h j hj<;>have h3:=hu j hj<;>omega
theorem ah8 {A B:Bk} (hA:A.alarm=0) (hB:B.alarm=0) {mA mB:Int->Bool}
  (H: ∀T:Nat->Int,(∀k,0<=T k/\T k<=20)->(∀k,A.spokes<=k->mA (k:Int)=false->T k=0)->aQ A T A.hours.toNat 0 1=1->
   ∃U:Nat->Int,(∀k,0<=U k/\U k<=20)/\(∀k,B.spokes<=k->mB (k:Int)=false->U k=0)/\(∀c,aQ B U B.hours.toNat 0 c=aQ A T A.hours.toNat 0 c)/\fZ B U B.links.length=fZ A T A.links.length):
  (aC B mB).2<=(aC A mA).2:=by
 have hG:=gY hA;obtain⟨h1,h2,h3,h4⟩:=adK (B:=A) (may:=mA) hA;obtain⟨t,hd,hl,ht,e1,e2⟩:=aea hG mA;obtain⟨_,_,_,hd4⟩:=ad4 hG.fine.links.1 hd;have hz: ∀k,A.spokes<=k->mA (k:Int)=false->trk (aC A mA).1 k=0:=fun k hk hm=>by
  have h5:=hd4 k hk;have h6:=(MV ht (by decide) k).1;rw[e1,adD,if_neg (show ¬k<A.spokes by omega)];unfold iY at h5;rw[hm] at h5;simp at h5;omega
 obtain⟨U,u1,u2,u3,u4⟩:=H _ (fun k=>fK (h2 k)) hz h3;have hyl:((List.range B.links.length).map U).length=B.links.length:=by simp
 have hy: ∀k,k<B.links.length->trk ((List.range B.links.length).map U) k=U k:=fun k hk=>by
  unfold trk;rw[lD,List.getElem?_map,List.getElem?_range hk];rfl
 have hyo: ∀k,B.links.length<=k->trk ((List.range B.links.length).map U) k=0:=fun k hk=>by
  unfold trk;rw[lD,List.getElem?_eq_none (by simpa using hk)];rfl
 have hfB:=(gY hB).fine;have hcl:aQ B (trk ((List.range B.links.length).map U)) B.hours.toNat 0 1=1:=by
  refine Eq.trans ?_ ((u3 1).trans h3);refine aiw (A:=B) rfl rfl (fun k hk=>hy k (by have:=hfB.links.1;omega)) (fun m h k hk=> ?_) 1;exact congrFun (adQ hfB (fun j h1 h2=>by rw[hy j h2]) m h) k
 have hco:fZ B (trk ((List.range B.links.length).map U)) B.links.length=fZ B U B.links.length:=by
  have: ∀n,n<=B.links.length->fZ B (trk ((List.range B.links.length).map U)) n=fZ B U n:=by
   intro n
   induction n with
   |zero=>intro _;rfl
   |succ n ih=>intro hn;unfold fZ;rw[ih (by omega),hy n (by omega)]
  exact this _ (nR _)
 have h8:=adS (B:=B) (may:=mB) (gY hB) (xs:=(List.range B.links.length).map U) hyl (adZ fun k hk=>by rw[hy k (by simpa using hk)];exact u1 k) (fun k hk hm=>by
  by_cases c:k<B.links.length
  ·rw[hy k c];exact u2 k hk hm
  ·exact hyo k (by omega)) hcl
 have h9:=aer h8;unfold adt at h9;rw[hco,u4] at h9;rw[h4];exact h9
theorem aix {A B:Bk} {i j:Nat} (h:B.links[i]? =A.links[j]?) (n:Int):bH B (i:Int) n=bH A (j:Int) n:=by
 unfold bH;rw[Int.toNat_natCast,Int.toNat_natCast,h]
def sumTo (f:Nat->Int):Nat->Int
 | 0=>0
 |n+1=>sumTo f n+f n
theorem sumTo_congr {f g:Nat->Int}: ∀n,(∀i,i<n->f i=g i)->sumTo f n=sumTo g n
 | 0,_=>rfl
 |n+1,h=>by unfold sumTo;rw[sumTo_congr n fun i hi=>h i (by omega),h n (by omega)]
theorem ahX (f:Nat->Int) (s:Nat): ∀m,sumTo f (s+m)=sumTo f s+sumTo (fun i=>f (s+i)) m
 | 0=>by simp[sumTo]
 |m+1=>by
  show sumTo f (s+m)+f (s+m)=sumTo f s+(sumTo (fun i=>f (s+i)) m+f (s+m))
  rw[ahX f s m];omega
theorem aiR (f:Nat->Int) (n:Nat):sumTo f (n+1)=f 0+sumTo (fun i=>f (i+1)) n:=by
 rw[show n+1=1+n by omega,ahX f 1 n];have:sumTo (fun i=>f (1+i)) n=sumTo (fun i=>f (i+1)) n:=sumTo_congr n fun i _=>by rw[Nat.add_comm]
 rw[this];simp[sumTo]
theorem aiy {f:Nat->Int}: ∀n,(∀i,i<n->f i=0)->sumTo f n=0
 | 0,_=>rfl
 |n+1,h=>by unfold sumTo;rw[aiy n fun i hi=>h i (by omega),h n (by omega)];rfl
theorem ahY (B:Bk) (T:Nat->Int): ∀n,fZ B T n=sumTo (fun i=>bH B (i:Int) (T i)) n
 | 0=>rfl
 |n+1=>by unfold fZ sumTo;rw[ahY B T n]
theorem ah9 (B:Bk) (T c:Nat->Int) (k:Nat): ∀n,adu B T c k n=sumTo (fun i=>incr B T (c i) (B.pone i) (B.ptwo i) k) n
 | 0=>rfl
 |n+1=>by unfold adu sumTo;rw[ah9 B T c k n]
def ahK (B:Bk) (ls:List Lnk):Bk:={B with links:=ls}
def ahL (B:Bk) (i:Nat):List Lnk:=B.links.take i++B.links.drop (i+1)
def ahM (i j:Nat):Nat:=if j<i then j else j+1
theorem ahU {B:Bk} {i:Nat} (h:i<B.links.length):(ahL B i).length=B.links.length-1:=by
 unfold ahL;rw[List.length_append,List.length_take,List.length_drop];omega
theorem aia {B:Bk} {i:Nat} (h:i<B.links.length) (j:Nat):(ahL B i)[j]? =B.links[ahM i j]? :=by
 unfold ahL ahM;by_cases c:j<i
 ·rw[if_pos c,List.getElem?_append_left (by rw[List.length_take];omega),List.getElem?_take,if_pos c]
 ·rw[if_neg c,List.getElem?_append_right (by rw[List.length_take];omega),List.length_take,List.getElem?_drop]
  congr 1
  omega
theorem aiS {B:Bk} {s:Nat} {j:Nat} {x:Lnk} (h:(B.links.take s)[j]? =some x):j<s/\B.links[j]? =some x:=by
 rw[List.getElem?_take] at h
 split at h
 ·exact⟨by assumption,h⟩
 ·cases h
theorem aiz {B:Bk} (hB:B.alarm=0) {i:Nat} (h1:B.spokes<=i) (h2:i<B.links.length):(ahK B (ahL B i)).alarm=0:=by
 refine aiu hB rfl rfl ?_ ?_ (nR _) (ahM i) id (fun j x hx=> ?_) (fun a b hab _=> ?_) (fun j x hx=>hx) (fun a b hab _=>by simp only[id];omega)
 ·show B.spokes<=(ahL B i).length
  rw[ahU h2];omega
 ·show (ahL B i).length<=_
  rw[ahU h2];omega
 ·rw[show (ahK B (ahL B i)).links=ahL B i from rfl,aia h2] at hx;refine⟨hx,fun h=> ?_,fun h=> ?_⟩<;>unfold ahM<;>split<;>omega
 ·unfold ahM
  split<;>split<;>omega
theorem aiA {B:Bk} (hB:B.alarm=0):(ahK B (B.links.take B.spokes)).alarm=0:=by
 have hl:=(gY hB).fine.links.1;refine aiu hB rfl rfl ?_ ?_ (nR _) id id (fun j x hx=> ?_) (fun a b hab _=>by simp only[id];omega) (fun j x hx=>hx) (fun a b hab _=>by simp only[id];omega)
 ·show B.spokes<=(B.links.take B.spokes).length
  rw[List.length_take];omega
 ·show (B.links.take B.spokes).length<=_
  rw[List.length_take];omega
 ·exact⟨(aiS hx).2,fun _=>rfl,fun h=>h⟩
theorem aiB {B:Bk} {ls:List Lnk} {σ:Nat->Nat} (hB:B.alarm=0) (hA:(ahK B ls).alarm=0) (h: ∀j,B.spokes<=j->j<ls.length->B.spokes<=σ j/\σ j<B.links.length/\ls[j]? =B.links[σ j]?):Emb (ahK B ls) B σ:=
 ⟨hA,hB,rfl,rfl,fun j h1 h2=>by
  obtain⟨g1,g2,g3⟩:=h j h1 h2;refine⟨g1,g2, ?_, ?_⟩
  ·show B.one (σ j)=(((ahK B ls).links[j]?).map (·.one)).getD 0
   rw[show (ahK B ls).links=ls from rfl,g3];rfl
  ·show B.two (σ j)=(((ahK B ls).links[j]?).map (·.two)).getD 0
   rw[show (ahK B ls).links=ls from rfl,g3];rfl⟩
theorem aiC {B:Bk} {ls:List Lnk} {σ:Nat->Nat} (e:Emb (ahK B ls) B σ) {T U:Nat->Int} (r:Rel (ahK B ls) B σ T U) (c:Int):aQ B U B.hours.toNat 0 c=aQ (ahK B ls) T (ahK B ls).hours.toNat 0 c:=by
 refine aiw (A:=ahK B ls) (B:=B) rfl rfl r.hub (fun m h k hk=> ?_) c;rw[aeE e.alB,aeE e.alA,ah9,ah9];exact sumTo_congr _ fun i _=>e.add r _ _ _ hk
theorem aiD {B:Bk} {ls:List Lnk} {σ:Nat->Nat} (e:Emb (ahK B ls) B σ) {may:Int->Bool} (hm2: ∀k,B.spokes<=k->k<B.links.length->(∀j,B.spokes<=j->j<ls.length->σ j≠k)->may (k:Int)=false) (inv:(Nat->Int)->Nat->Int)
  (hi: ∀T:Nat->Int,(∀k,0<=T k/\T k<=20)->Rel (ahK B ls) B σ T (inv T)/\(∀k,0<=inv T k/\inv T k<=20)/\ ∀k,B.spokes<=k->may (k:Int)=false->inv T k=0)
  (hc: ∀T U:Nat->Int,Rel (ahK B ls) B σ T U->fZ B U B.links.length=fZ (ahK B ls) T ls.length):(aC (ahK B ls) aT).2=(aC B may).2:=by
 refine Int.le_antisymm ?_ ?_
 ·refine ah8 e.alB e.alA fun U hU hm _=> ?_;have r:Rel (ahK B ls) B σ (fun k=>if k<B.spokes then U k else U (σ k)) U:=⟨fun k hk=>by simp only[show k<B.spokes from hk,if_true],fun j h1 h2=>by simp only[show ¬j<B.spokes from Nat.not_lt.2 h1,if_false],fun k h1 h2 h3=>hm k h1 (hm2 k h1 h2 h3)⟩;exact⟨_,fun k=>by split<;>exact hU _,fun _ _ h=>(by cases h),fun c=>(aiC e r c).symm,(hc _ _ r).symm⟩
 ·refine ah8 e.alA e.alB fun T hT _ _=> ?_;obtain⟨r,h1,h2⟩:=hi T hT;exact⟨inv T,h1,fun k hk hm=>h2 k hk hm,fun c=>aiC e r c,hc T _ r⟩
theorem aiT {B:Bk} (hB:B.alarm=0) {i:Nat} (h1:B.spokes<=i) (h2:i<B.links.length):(aC (ahK B (ahL B i)) aT).2=(aC B (mJ (i:Int))).2:=by
 have hbl:=ahU h2;have e:Emb (ahK B (ahL B i)) B (ahM i):=aiB hB (aiz hB h1 h2) fun j h3 h4=>by
  refine⟨by unfold ahM;split<;>omega,by unfold ahM;split<;>omega,aia h2 j⟩
 refine aiD e (fun k h3 h4 h5=> ?_) (fun T k=>if k<i then T k else if k=i then 0 else T (k-1)) (fun T hT=>⟨⟨fun k hk=> ?_,fun j h3 h4=> ?_,fun k h3 h4 h5=> ?_⟩,fun k=> ?_,fun k h3 hm=> ?_⟩) fun T U r=> ?_
 ·have:k=i:=by
   by_cases c:k<i
   ·exact absurd (show ahM i k=k by unfold ahM;rw[if_pos c]) (h5 k h3 (by omega))
   ·by_cases d:k=i
    ·exact d
    ·exact absurd (show ahM i (k-1)=k by unfold ahM;rw[if_neg (by omega)];omega) (h5 (k-1) (by omega) (by omega))
  subst this;unfold mJ;simp
 ·have:k<B.spokes:=hk
  try dsimp only
  rw[if_pos (by omega)]
 ·have h4':j<(ahL B i).length:=h4
  try dsimp only
  unfold ahM;by_cases c:j<i
  ·rw[if_pos c,if_pos c]
  ·rw[if_neg c,if_neg (by omega),if_neg (by omega),Nat.add_sub_cancel]
 ·have h5': ∀j,B.spokes<=j->j<(ahL B i).length->ahM i j≠k:=h5;have h3':B.spokes<=k:=h3
  try dsimp only
  by_cases c:k<i
  ·exact absurd (show ahM i k=k by unfold ahM;rw[if_pos c]) (h5' k h3' (by omega))
  ·by_cases d:k=i
   ·rw[if_neg c,if_pos d]
   ·exact absurd (show ahM i (k-1)=k by unfold ahM;rw[if_neg (by omega)];omega) (h5' (k-1) (by omega) (by omega))
 ·have:=hT k;have:=hT (k-1)
  try dsimp only
  split
  ·exact hT k
  ·split
   ·omega
   ·exact hT (k-1)
 ·unfold mJ at hm;have:k=i:=by
   have:(k:Int)=(i:Int):=by simpa using hm
   omega
  try dsimp only
  rw[if_neg (by omega),if_pos this]
 ·have rh: ∀k,k<B.spokes->U k=T k:=r.hub;have rd: ∀j,B.spokes<=j->j<(ahL B i).length->U (ahM i j)=T j:=r.dir;have hu: ∀j,j<(ahL B i).length->U (ahM i j)=T j:=fun j hj=>by
   by_cases c:j<B.spokes
   ·have:ahM i j=j:=by unfold ahM;rw[if_pos (by omega)]
    rw[this];exact rh j c
   ·exact rd j (by omega) hj
  have h0:U i=0:=by
   refine r.no i h1 h2 fun j _ _=> ?_;unfold ahM
   split<;>omega
  have hk: ∀j,j<(ahL B i).length->bH B (ahM i j:Nat) (U (ahM i j))=bH (ahK B (ahL B i)) (j:Int) (T j):=fun j hj=>by
   rw[hu j hj];exact aix (by rw[show (ahK B (ahL B i)).links=ahL B i from rfl,aia h2]) _
  obtain⟨m,hm⟩: ∃m,B.links.length=i+(m+1):=⟨B.links.length-i-1,by omega⟩;have hm2:(ahL B i).length=i+m:=by omega
  rw[ahY,ahY,hm,hm2,ahX _ i (m+1),ahX _ i m,aiR];have q1:sumTo (fun j=>bH B (j:Int) (U j)) i=sumTo (fun j=>bH (ahK B (ahL B i)) (j:Int) (T j)) i:=sumTo_congr _ fun j hj=>by
   have:=hk j (by omega);rwa [show ahM i j=j by unfold ahM;rw[if_pos hj]] at this
  have q2:sumTo (fun j=>bH B ((i+(j+1):Nat):Int) (U (i+(j+1)))) m=sumTo (fun j=>bH (ahK B (ahL B i)) ((i+j:Nat):Int) (T (i+j))) m:=sumTo_congr _ fun j hj=>by
   have:=hk (i+j) (by omega);rwa [show ahM i (i+j)=i+(j+1) by unfold ahM;rw[if_neg (by omega)];omega] at this
  rw[q1,q2,Nat.add_zero,h0,abW];omega
theorem aiU {B:Bk} (hB:B.alarm=0):(aC (ahK B (B.links.take B.spokes)) aT).2=(aC B kC).2:=by
 have hl:=(gY hB).fine.links.1;have hbl:(B.links.take B.spokes).length=B.spokes:=by rw[List.length_take];omega
 have e:Emb (ahK B (B.links.take B.spokes)) B id:=aiB hB (aiA hB) fun j h3 h4=>by omega
 refine aiD e (fun k h3 h4 h5=>rfl) (fun T k=>if k<B.spokes then T k else 0) (fun T hT=>⟨⟨fun k hk=> ?_,fun j h3 h4=> ?_,fun k h3 h4 h5=> ?_⟩,fun k=> ?_,fun k h3 hm=> ?_⟩) fun T U r=> ?_
 ·have:k<B.spokes:=hk
  try dsimp only
  rw[if_pos this]
 ·have h4':j<(B.links.take B.spokes).length:=h4;have h3':B.spokes<=j:=h3;omega
 ·have h3':B.spokes<=k:=h3
  try dsimp only
  rw[if_neg (by omega)]
 ·try dsimp only
  split
  ·exact hT k
  ·omega
 ·try dsimp only
  rw[if_neg (by omega)]
 ·have rh: ∀k,k<B.spokes->U k=T k:=r.hub;have rn: ∀k,B.spokes<=k->k<B.links.length->U k=0:=fun k h3 h4=>r.no k h3 h4 fun j h5 h6=>by
   have h6':j<(B.links.take B.spokes).length:=h6;have h5':B.spokes<=j:=h5;omega
  obtain⟨m,hm⟩: ∃m,B.links.length=B.spokes+m:=⟨B.links.length-B.spokes,by omega⟩;rw[ahY,ahY,hbl,hm,ahX];have q1:sumTo (fun j=>bH B (j:Int) (U j)) B.spokes=sumTo (fun j=>bH (ahK B (B.links.take B.spokes)) (j:Int) (T j)) B.spokes:=sumTo_congr _ fun j hj=>by
   rw[rh j hj];exact aix (by rw[show (ahK B (B.links.take B.spokes)).links=B.links.take B.spokes from rfl,List.getElem?_take,if_pos hj]) _
  rw[q1,aiy m fun j hj=>by rw[rn _ (by omega) (by omega),abW]];omega
theorem aiE {B:Bk} (hB:B.alarm=0) {m1 m2:Int->Bool} (h: ∀k,m2 k=false->m1 k=false):(aC B m2).2<=(aC B m1).2:=
 ah8 hB hB fun T hT hm _=>⟨T,hT,fun k hk hf=>hm k hk (h _ hf),fun _=>rfl,rfl⟩
theorem aiV {B:Bk} (hB:B.alarm=0) (may:Int->Bool):0<=(aC B may).2:=by
 have hG:=gY hB;obtain⟨_,h2,_,h4⟩:=adK (may:=may) hB;rw[h4];exact(ED hG (fun k=>by have:=fK (h2 k);omega) _).1
structure aib (B:Bk) (k:Nat) (acc:Int×Int):Prop where
 pos:0<=acc.2
 val:(acc.1= -1/\acc.2=0)\/ ∃r:Nat,acc.1=(r:Int)/\B.spokes<=r/\r<k/\kD B (r:Int)=acc.2/\0<acc.2
 all: ∀j:Nat,B.spokes<=j->j<k->kD B (j:Int)<=acc.2/\((j:Int)<acc.1->kD B (j:Int)<acc.2)
theorem aiF {B:Bk}: ∀(n k:Nat) (acc:Int×Int),aib B k acc->B.spokes<=k->aib B (k+n) (oQ B n k acc)
 | 0,_,_,h,_=>h
 |n+1,k,acc,h,hk=>by
  unfold oQ;rw[show k+(n+1)=(k+1)+n by omega];refine aiF n (k+1) _ ?_ (by omega);have hp:=h.pos;by_cases c:acc.2<kD B (k:Int)
  ·rw[if_pos c];refine⟨by dsimp only;omega,.inr ⟨k,rfl,hk,by omega,rfl,by dsimp only;omega⟩,fun j h1 h2=> ?_⟩
   try dsimp only
   by_cases e:j=k
   ·subst e;exact⟨Int.le_refl _,fun h=>absurd h (by omega)⟩
   ·have:=(h.all j h1 (by omega)).1;exact⟨by omega,fun _=>by omega⟩
  ·rw[if_neg c];refine⟨hp,h.val.imp id fun⟨r,a1,a2,a3,a4⟩=>⟨r,a1,a2,by omega,a4⟩,fun j h1 h2=> ?_⟩;by_cases e:j=k
   ·subst e;refine⟨by omega,fun h3=> ?_⟩
    rcases h.val with ⟨a,_⟩ |⟨r,a1,_,a3,_⟩<;>omega
   ·exact h.all j h1 (by omega)
theorem aiW {B:Bk} (hB:B.alarm=0):aib B B.links.length (mM B):=by
 have hl:=(gY hB).fine.links.1;have:=aiF (B:=B) (B.links.length-B.spokes) B.spokes (-1,0) ⟨by decide,.inl ⟨rfl,rfl⟩,fun j h1 h2=>by omega⟩ (nR _);rwa [show B.spokes+(B.links.length-B.spokes)=B.links.length by omega] at this
theorem aiX (la:Option Addr) (n k c:Nat) (hk:k<=n) (u:World):(Instr.slice 23 (.slice la n c) (some (.int .i64 (k:Int))) none none).run tP u= .ok (.slice (if c=k then la else la.map (·.add (k*3))) (n-k) (c-k)) u:=by
 have ht:tP.underlying 23=some (.slice (tP.elem 23)):=by kernel_rfl
 have z79:=Tryd.sizeOf79;rw[run_slice_l u 23 la n c ht .i64 (k:Int) (by omega) (by omega),aiq];simp[sliced,z79,Result.andThen]
theorem aiG {n:Nat} {w u:World} {p:Addr} {v:Value} (hb:Below n w u) (h:w.cell? p=some v) (hn:w.heap.size<=n:=by exact nR _):u.cell? p=some v:=(hb.cell (Nat.lt_of_lt_of_le (World.block_lt_of_cell? w _ h) hn)).trans h
theorem aiY {w u:World} {V:BkV} {B:Bk} (hs:aB w V B) (hb:Below w.heap.size w u) {ls:List Lnk} (hl:ls.length<=1000000) {vs:List (Int×Int×Value)} {g gc:Nat} (hr:RwV u (ls.map lk3) vs) (ht:ahP u g 0 vs):aB u {V with la:=some ⟨g,0,none⟩,lc:=gc} (ahK B ls):=
 have hs2:=hs.below hb (nR _)
 ⟨hs2.towns,ain hr ht,hs2.pairs,hs2.nt,hl,hs2.np,hs2.tc⟩
theorem c52 (V:BkV) (B:Bk) (i:Nat) (w:World) (hs:aB w V B) (hn:2<=B.links.length/\B.links.length<=6) (hi:i<B.links.length) (hlc:B.links.length<=V.lc/\V.lc<=maxLen):
  Calls tP 52 #[V.val B,.int .i64 (i:Int)] w fun e w'=> ∃g gc,e= .returned (({V with la:=some ⟨g,0,none⟩,lc:=gc}:BkV).val (ahK B (ahL B i)))/\aB w' {V with la:=some ⟨g,0,none⟩,lc:=gc} (ahK B (ahL B i))/\bG w' (some ⟨g,0,none⟩)/\ahL B i≠ []/\(ahL B i).length<=gc/\Below w.heap.size w w':=by
 obtain⟨ta,la,pa,tc,lc,pc⟩:=V;simp only at hlc;obtain⟨lb,lo,sa0,sc0,hla,_⟩:=hs.links 0 _ (lG (by omega));simp only at hla;subst hla;obtain⟨vs,hrv,htr⟩:=ail hs.links;have hvl:vs.length=B.links.length:=by rw[hrv.len,List.length_map]
 have Hs:=lH hs;have Hrv:=lH hrv;have Htr:=lH htr;have Hvl:=lH hvl;have Hlc:=lH hlc;have hc1:=fun(u:World)=>air (some ⟨lb,lo,none⟩) B.links.length i lc (by omega) hlc.1 u;obtain⟨adr2,hc2,ht2⟩: ∃adr2,(∀u,(Instr.slice 23 (.slice (some ⟨lb,lo,none⟩) B.links.length lc) (some (.int .i64 ((i:Int)+1))) none none).run tP u= .ok (.slice (some adr2) (B.links.length-(i+1)) (lc-(i+1))) u)/\ ∀(j:Nat) (x:Value),(tri (vs.drop (i+1)))[j]? =some x->w.cell? (adr2.add j)=some x:=by
  have e:((i+1 :Nat):Int)=(i:Int)+1:=by omega
  have h:=fun(u:World)=>aiX (some ⟨lb,lo,none⟩) B.links.length (i+1) lc (by omega) u;rw[e] at h;by_cases c:lc=i+1
  ·refine⟨⟨lb,lo,none⟩,fun u=>by rw[h u,if_pos c],fun j x hx=> ?_⟩;rw[List.drop_of_length_le (by omega)] at hx
   cases hx
  ·refine⟨⟨lb,lo+(i+1)*3,none⟩,fun u=>by rw[h u,if_neg c,Option.map_some,BH],fun j x hx=>Htr.out.drop (by omega) j x hx⟩
 obtain⟨i7,hi7,hz7,hy7,hw7⟩:=info_parts Zo;have hw1:IntKind.wrap .i64 ((i:Int)+1)=(i:Int)+1:=IntWalk.i64_in _ (by omega);have Hc1:=lH hc1;have Hc2:=lH hc2;have Ht2:=lH ht2;have Hw1:=lH hw1;clear hs hrv htr hvl hc1 hc2 ht2 hw1;go_enter Tryd.func52,Tryd.ntmps52
 go_wp2_with fail
 have hz0:(w.alloc (.cells #[.int .i64 B.hours,.slice ta B.towns.length tc,.slice (some ⟨lb,lo,none⟩) B.links.length lc,.slice pa B.pairs.length pc] 26)).heap.size=w.heap.size+1:=by simp
 have hz1:((w.alloc (.cells #[.int .i64 B.hours,.slice ta B.towns.length tc,.slice (some ⟨lb,lo,none⟩) B.links.length lc,.slice pa B.pairs.length pc] 26)).alloc (.cells #[.int .i64 0,.slice none 0 0,.slice none 0 0,.slice none 0 0] 26)).heap.size=w.heap.size+1+1:=by simp
 have hb0:=(bR w.heap.size w).alloc (nR _) (.cells #[.int .i64 B.hours,.slice ta B.towns.length tc,.slice (some ⟨lb,lo,none⟩) B.links.length lc,.slice pa B.pairs.length pc] 26);have hr0:=ahT w 26 (.int .i64 B.hours) (.slice ta B.towns.length tc) (.slice (some ⟨lb,lo,none⟩) B.links.length lc) (.slice pa B.pairs.length pc);generalize w.alloc (.cells #[.int .i64 B.hours,.slice ta B.towns.length tc,.slice (some ⟨lb,lo,none⟩) B.links.length lc,.slice pa B.pairs.length pc] 26)=W0 at *;have hb1:=hb0.alloc hb0.size (.cells #[.int .i64 0,.slice none 0 0,.slice none 0 0,.slice none 0 0] 26);have hb01:=(bR W0.heap.size W0).alloc (nR _) (.cells #[.int .i64 0,.slice none 0 0,.slice none 0 0,.slice none 0 0] 26);have hr1:=ahT W0 26 (.int .i64 0) (.slice none 0 0) (.slice none 0 0) (.slice none 0 0);rw[hz0] at hr1;generalize W0.alloc (.cells #[.int .i64 0,.slice none 0 0,.slice none 0 0,.slice none 0 0] 26)=W1 at *;have hb2:=hb1.alloc hb1.size (.cells #[.int .i64 B.hours,.slice ta B.towns.length tc,.slice (some ⟨lb,lo,none⟩) B.links.length lc,.slice pa B.pairs.length pc] 26);have hb12:=(bR W1.heap.size W1).alloc (nR _) (.cells #[.int .i64 B.hours,.slice ta B.towns.length tc,.slice (some ⟨lb,lo,none⟩) B.links.length lc,.slice pa B.pairs.length pc] 26);have hr2:=ahT W1 26 (.int .i64 B.hours) (.slice ta B.towns.length tc) (.slice (some ⟨lb,lo,none⟩) B.links.length lc) (.slice pa B.pairs.length pc);have hzz:(W1.alloc (.cells #[.int .i64 B.hours,.slice ta B.towns.length tc,.slice (some ⟨lb,lo,none⟩) B.links.length lc,.slice pa B.pairs.length pc] 26)).heap.size=w.heap.size+1+1+1:=by simp[hz1]
 rw[hz1] at hr2;generalize W1.alloc (.cells #[.int .i64 B.hours,.slice ta B.towns.length tc,.slice (some ⟨lb,lo,none⟩) B.links.length lc,.slice pa B.pairs.length pc] 26)=W at *;have hr0:=(hr0.below hb01 (by omega)).below hb12 (by omega);have hr1:=hr1.below hb12 (by omega);clear hb0 hb1 hb01 hb12 hz0 hz1;have k2:=hr0.c2;have hW:Below W.heap.size W W.drew:=(bR _ _).drew;have HC: ∀u,Below W.heap.size W u->u.cell? ⟨w.heap.size,2,none⟩=some (.slice (some ⟨lb,lo,none⟩) B.links.length lc):=fun u hu=>cell_below hu k2 (nR _);have hc1:=Hc1.out;have hc2:=Hc2.out;have hw1:=Hw1.out;refine aif 13 14 (fun u=>Below W.heap.size W u) (by kernel_rfl) ?_;refine ahN 1 (.pointer (some ⟨w.heap.size,2,none⟩)) hW ?_ (hr:=fun u hu=>by go_simp);refine ahN 2 (.slice (some ⟨lb,lo,none⟩) B.links.length lc) hW ?_ (hr:=fun u hu=>by have c0:=HC u hu;go_simp);refine ahN 3 (.int .i64 (i:Int)) hW ?_ (hr:=fun u hu=>by go_simp);refine ahN 4 (.slice (some ⟨lb,lo,none⟩) i lc) hW ?_ (hr:=fun u hu=>by go_simp);refine ahN 6 (.pointer (some ⟨w.heap.size,2,none⟩)) hW ?_ (hr:=fun u hu=>by go_simp);refine ahN 7 (.slice (some ⟨lb,lo,none⟩) B.links.length lc) hW ?_ (hr:=fun u hu=>by have c0:=HC u hu;go_simp);refine ahN 8 (.int .i64 (i:Int)) hW ?_ (hr:=fun u hu=>by go_simp);refine ahN 9 (.int .i64 ((i:Int)+1)) hW ?_ (hr:=fun u hu=>by go_simp);refine ahN 10 (.slice (some adr2) (B.links.length-(i+1)) (lc-(i+1))) hW ?_ (hr:=fun u hu=>by go_simp);refine ahQ 0 (h:=ah0 (v:= .slice (some ⟨W.drew.heap.size,0,none⟩) 0 0) (w':=W.drew.alloc (.cells #[] 79)) (by go_simp) ⟨fun _=>hW.alloc hW.size _, ?_⟩);have ho:=aip W.drew W.heap.size 79 3 hW.size;have hu0:=hW.alloc hW.size (.cells #[] 79);generalize W.drew.alloc (.cells #[] 79)=u0 at *;generalize W.drew.heap.size=b7 at *;have hw0:=hb2.trans (hu0.mono hb2.size);simp only[Act.put,List.setIfInBounds_toArray,List.set,List.getElem_toArray,List.getElem_cons_zero,List.getElem_cons_succ];refine ahQ 5 (h:=aii (.tmp 7) (.tmp 11) 23 (by rfl) W.heap.size 79 i7 (.agg #[.int .i64 0,.int .i64 0,.slice none 0 0]) 3 40 Tryd.underlying23 hi7 hz7 hy7 hw7 (by rfl) (by decide) _ _ _ (by rfl) ho ⟨lb,lo,none⟩ i lc (tri (vs.take i)) (by rfl)
  (by rw[ES,List.length_take,Hvl.out,Nat.min_eq_left (by omega)]) (fun j x hx=>aiG hw0 ((Htr.out.take i) j x hx)) (Hrv.out.take i).one (by unfold maxLen;omega) (by omega) hu0.size fun v1 u1 ho1 hg1 _=> ?_)
 have hu1:Below W.heap.size W u1:=hu0.grown hg1 hu0.size (fun j hj=>(ho.lt j hj).1);refine⟨fun _=>hu1, ?_⟩;have hw2:=hb2.trans (hu1.mono hb2.size);simp only[Act.put,List.setIfInBounds_toArray,List.set,List.getElem_toArray,List.getElem_cons_zero,List.getElem_cons_succ];refine ahQ 11 (h:=aii (.tmp 12) (.tmp 17) 23 (by rfl) W.heap.size 79 i7 (.agg #[.int .i64 0,.int .i64 0,.slice none 0 0]) 3 40 Tryd.underlying23 hi7 hz7 hy7 hw7 (by rfl) (by decide) _ _ _ (by rfl) ho1 adr2 (B.links.length-(i+1)) (lc-(i+1)) (tri (vs.drop (i+1))) (by rfl)
  (by rw[ES,List.length_drop,Hvl.out]) (fun j x hx=>aiG hw2 (Ht2.out j x hx)) (Hrv.out.drop (i+1)).one (by unfold maxLen;omega) (by omega) hu1.size fun v2 u2 ho2 hg2 _=> ?_)
 have hu2:Below W.heap.size W u2:=hu1.grown hg2 hu1.size (fun j hj=>(ho1.lt j hj).1);refine⟨fun _=>hu2, ?_⟩;obtain⟨g,gc,rfl,q1,q2,q3,_,q5,_⟩:=ru ho2 (by omega);rw[Nat.zero_add,show i+(B.links.length-(i+1))=B.links.length-1 by omega] at *;rw[List.nil_append,<-ah2] at q3;have hr0:=hr0.below hu2 hr0.z;have hr1:=hr1.below hu2 hr1.z;have hr2:=hr2.below hu2 hr2.z;simp only[Act.put,List.setIfInBounds_toArray,List.set,List.getElem_toArray,List.getElem_cons_zero,List.getElem_cons_succ];refine ahN 12 (.pointer (some ⟨w.heap.size+1+1,2,none⟩)) hu2 ?_ (hr:=fun u hu=>by go_simp);simp only[Act.put,List.setIfInBounds_toArray,List.set,List.getElem_toArray,List.getElem_cons_zero,List.getElem_cons_succ];have s0:(u2.setCell ⟨w.heap.size+1+1,2,none⟩ (.slice (some ⟨g,0,none⟩) (B.links.length-1) gc)).cell? ⟨w.heap.size+1+1,0,none⟩=some (.int .i64 B.hours):=by have:=hr2.c0;go_simp
 have s1:(u2.setCell ⟨w.heap.size+1+1,2,none⟩ (.slice (some ⟨g,0,none⟩) (B.links.length-1) gc)).cell? ⟨w.heap.size+1+1,1,none⟩=some (.slice ta B.towns.length tc):=by have:=hr2.c1;go_simp
 have s2:(u2.setCell ⟨w.heap.size+1+1,2,none⟩ (.slice (some ⟨g,0,none⟩) (B.links.length-1) gc)).cell? ⟨w.heap.size+1+1,2,none⟩=some (.slice (some ⟨g,0,none⟩) (B.links.length-1) gc):=World.cell?_setCell_same _ _ _ hr2.c2;have s3:(u2.setCell ⟨w.heap.size+1+1,2,none⟩ (.slice (some ⟨g,0,none⟩) (B.links.length-1) gc)).cell? ⟨w.heap.size+1+1,3,none⟩=some (.slice pa B.pairs.length pc):=by have:=hr2.c3;go_simp
 have hwz:=hb2.trans (hu2.mono hb2.size);have hr1:dW (u2.setCell ⟨w.heap.size+1+1,2,none⟩ (.slice (some ⟨g,0,none⟩) (B.links.length-1) gc)) (w.heap.size+1) (.int .i64 0) (.slice none 0 0) (.slice none 0 0) (.slice none 0 0):=hr1.below ((bR (w.heap.size+1+1) u2).setCell (p:=⟨w.heap.size+1+1,2,none⟩) (nR _) _) (by omega);have q3': ∀(j:Nat) (x:Value),(tri (vs.take i++vs.drop (i+1)))[j]? =some x->(u2.setCell ⟨w.heap.size+1+1,2,none⟩ (.slice (some ⟨g,0,none⟩) (B.links.length-1) gc)).cell? ⟨g,j,none⟩=some x:=fun j x hx=>by
  rw[wF _ _ _ _ (show w.heap.size+1+1≠g by omega)];exact q3 j x hx
 have hwz':Below w.heap.size w (u2.setCell ⟨w.heap.size+1+1,2,none⟩ (.slice (some ⟨g,0,none⟩) (B.links.length-1) gc)):=hwz.setCell (p:=⟨w.heap.size+1+1,2,none⟩) (show w.heap.size<=w.heap.size+1+1 by omega) _;have hfr:=hr2.f2;have hcc:=hr2.c2;refine ahQ 13 (h:=ah1 (w':=u2.setCell ⟨w.heap.size+1+1,2,none⟩ (.slice (some ⟨g,0,none⟩) (B.links.length-1) gc)) (by go_simp) ⟨fun h=>absurd rfl h, ?_⟩);have Hrow:=lH (jm ⟨w.heap.size+1+1,2,none⟩ (.slice (some ⟨g,0,none⟩) (B.links.length-1) gc) (aan ho2).1);generalize u2.setCell ⟨w.heap.size+1+1,2,none⟩ (.slice (some ⟨g,0,none⟩) (B.links.length-1) gc)=u3 at *;refine ahZ ?_;simp only[Act.put,List.getElem_toArray,List.getElem_cons_zero,List.getElem_cons_succ];have Hq3:=lH q3';have HBk:Hid (aB (((((u3.setCell ⟨w.heap.size+1,0,none⟩ (.int .i64 B.hours)).setCell ⟨w.heap.size+1,1,none⟩ (.slice ta B.towns.length tc)).setCell ⟨w.heap.size+1,2,none⟩ (.slice (some ⟨g,0,none⟩) (B.links.length-1) gc)).setCell ⟨w.heap.size+1,3,none⟩ (.slice pa B.pairs.length pc))) ⟨ta,some ⟨g,0,none⟩,pa,tc,gc,pc⟩ (ahK B (ahL B i))/\Below w.heap.size w (((((u3.setCell ⟨w.heap.size+1,0,none⟩ (.int .i64 B.hours)).setCell ⟨w.heap.size+1,1,none⟩ (.slice ta B.towns.length tc)).setCell ⟨w.heap.size+1,2,none⟩ (.slice (some ⟨g,0,none⟩) (B.links.length-1) gc)).setCell ⟨w.heap.size+1,3,none⟩ (.slice pa B.pairs.length pc)))):=lH (by
  have hb:=aik hwz' (b:=w.heap.size+1) (show w.heap.size<=w.heap.size+1 by omega) rfl (.int .i64 B.hours) (.slice ta B.towns.length tc) (.slice (some ⟨g,0,none⟩) (B.links.length-1) gc) (.slice pa B.pairs.length pc);refine⟨aiY (V:=⟨ta,some ⟨lb,lo,none⟩,pa,tc,lc,pc⟩) Hs.out hb (by rw[ahU hi];omega) (vs:=vs.take i++vs.drop (i+1)) ?_ (aio fun j x hx=> ?_),hb⟩
  ·have:=((Hrv.out.take i).append (Hrv.out.drop (i+1))).below hb (nR _);rwa [<-List.map_take,<-List.map_drop,<-List.map_append] at this
  ·have hne:w.heap.size+1≠g:=by omega
   rw[wF _ _ _ _ hne,wF _ _ _ _ hne,wF _ _ _ _ hne,wF _ _ _ _ hne];exact Hq3.out j x hx)
 obtain⟨hz',e0,e1,e2,e3,f0,f1,f2,f3⟩:=hr1;have Hcap:=lH q5;clear hr0 hr2 hcc hfr q3 q3' hwz hwz' hu0 hu1 hu2 ho ho1 ho2 hg1 hg2 HC hW k2 hw0 hw2 hb2;go_wp2;refine bodyPost_ret (v:= .agg #[.int .i64 B.hours,.slice ta B.towns.length tc,.slice (some ⟨g,0,none⟩) (B.links.length-1) gc,.slice pa B.pairs.length pc]) (by simp[results,Tryd.results52,go_sem,e0,e1,e2,e3]) rfl ?_;refine⟨g,gc, ?_,HBk.out.1, ?_, ?_, ?_,HBk.out.2⟩
 ·simp only[BkV.val,ahK,ahU hi]
 ·exact jm _ _ (jm _ _ (jm _ _ (jm _ _ Hrow.out)))
 ·intro e;have:=ahU hi;rw[e] at this;simp at this;omega
 ·rw[ahU hi];exact Hcap.out
noncomputable def aiH:Code:=match Tryd.f51.body with
 |some (.seq _ (.seq c _))=>c
 |_=> .skip
theorem aiZ {Q:Exit->Act->World->Prop} (v0 kv bk ag:Value) (b:Nat) (n:Int) (la:Option Addr) (nl lc:Nat) (bt:Bool) (h':Int) (ta' la' pa':Option Addr) (tc' lc' pc' n1 n2 n3:Nat) (al:Int) (W:World)
  (hag:ag= .agg #[.int .i64 h',.slice ta' n1 tc',.slice la' n2 lc',.slice pa' n3 pc']) (hnl:nl<=1000000) (hkv:kv= .int .i64 n) (h:Int) (ta pa:Option Addr) (nt np tc pc:Nat) (hbk:bk= .agg #[.int .i64 h,.slice ta nt tc,.slice la nl lc,.slice pa np pc])
  (k0:W.cell? ⟨b,0,none⟩=some (.int .i64 h)) (k1:W.cell? ⟨b,1,none⟩=some (.slice ta nt tc)) (k2:W.cell? ⟨b,2,none⟩=some (.slice la nl lc)) (k3:W.cell? ⟨b,3,none⟩=some (.slice pa np pc))
  (H69: ∀u,Below W.heap.size W u->Calls tP 69 #[kv,.int .i64 0,.int .i64 ((nl:Int)-1)] u fun e u'=>e= .returned (.bool bt)/\Below u.heap.size u u')
  (H78: ∀u,Below W.heap.size W u->Calls tP 78 #[bk,.bool bt] u fun e u'=>e= .returned (.tuple #[ag,.int .i64 al])/\Below u.heap.size u u')
  (K: ∀(b6:Nat) (w':World),W.heap.size<=b6->Below W.heap.size W w'->dW w' b6 (.int .i64 h') (.slice ta' n1 tc') (.slice la' n2 lc') (.slice pa' n3 pc')->Q .normal ⟨#[v0,kv,.pointer (some ⟨b,0,none⟩),ud,.int .i64 0,.int .i64 0,.pointer (some ⟨b6,0,none⟩),.int .i64 al,.tuple #[ag,.int .i64 al],bk,kv,.pointer (some ⟨b,2,none⟩),.slice la nl lc,.int .i64 (nl:Int),.int .i64 ((nl:Int)-1),.bool bt,.tuple #[ag,.int .i64 al],ag,.int .i64 al,ud,ud,ud,ud,ud,ud,ud,ud,ud,ud,ud,ud],[]⟩ w'):
  aiH.wp tP Q ⟨#[v0,kv,.pointer (some ⟨b,0,none⟩),ud,.int .i64 0,.int .i64 0,ud,ud,ud,ud,ud,ud,ud,ud,ud,ud,ud,ud,ud,ud,ud,ud,ud,ud,ud,ud,ud,ud,ud,ud,ud],[]⟩ W:=by
 subst hag hkv hbk;have hwr:IntKind.wrap .i64 ((nl:Int)-1)=(nl:Int)-1:=IntWalk.i64_in _ (by omega);simp only[aiH,Tryd.f51];have hW:Below W.heap.size W W.drew:=(bR _ _).drew;have HC: ∀u,Below W.heap.size W u->u.cell? ⟨b,0,none⟩=some (.int .i64 h)/\u.cell? ⟨b,1,none⟩=some (.slice ta nt tc)/\u.cell? ⟨b,2,none⟩=some (.slice la nl lc)/\u.cell? ⟨b,3,none⟩=some (.slice pa np pc):=fun u hu=>⟨cell_below hu k0 (nR _),cell_below hu k1 (nR _),cell_below hu k2 (nR _),cell_below hu k3 (nR _)⟩;refine aif 14 14 (fun u=>Below W.heap.size W u) (by kernel_rfl) ?_;refine ahN 0 (.agg #[.int .i64 h,.slice ta nt tc,.slice la nl lc,.slice pa np pc]) hW ?_ (hr:=fun u hu=>by obtain⟨c0,c1,c2,c3⟩:=HC u hu;go_simp);refine ahN 1 (.int .i64 n) hW ?_ (hr:=fun u hu=>by go_simp);refine ahN 2 (.pointer (some ⟨b,2,none⟩)) hW ?_ (hr:=fun u hu=>by go_simp);refine ahN 3 (.slice la nl lc) hW ?_ (hr:=fun u hu=>by obtain⟨c0,c1,c2,c3⟩:=HC u hu;go_simp);refine ahN 4 (.int .i64 (nl:Int)) hW ?_ (hr:=fun u hu=>by go_simp);refine ahN 5 (.int .i64 ((nl:Int)-1)) hW ?_ (hr:=fun u hu=>by go_simp);have hz:=hW.size;have fin: ∀(b6:Nat) (u:World),W.heap.size<=b6->Below W.heap.size W u->(∃c0 c1 c2 c3,dW u b6 c0 c1 c2 c3)->dW ((((u.setCell ⟨b6,0,none⟩ (.int .i64 h')).setCell ⟨b6,1,none⟩ (.slice ta' n1 tc')).setCell ⟨b6,2,none⟩ (.slice la' n2 lc')).setCell ⟨b6,3,none⟩ (.slice pa' n3 pc')) b6 (.int .i64 h') (.slice ta' n1 tc') (.slice la' n2 lc') (.slice pa' n3 pc')/\Below W.heap.size W ((((u.setCell ⟨b6,0,none⟩ (.int .i64 h')).setCell ⟨b6,1,none⟩ (.slice ta' n1 tc')).setCell ⟨b6,2,none⟩ (.slice la' n2 lc')).setCell ⟨b6,3,none⟩ (.slice pa' n3 pc')):=fun b6 u h1 h2 ⟨_,_,_,_,h3⟩=>⟨aiK h3 _ _ _ _,aik h2 h1 rfl _ _ _ _⟩;refine aie 6 11 ?_ ?_
 ·refine ahW (f:=69) (args:= #[.int .i64 n,.int .i64 0,.int .i64 ((nl:Int)-1)]) (w':=W.drew) (by go_simp) ((H69 _ hW).mono ?_);rintro e u ⟨rfl,hb⟩;have hu:Below W.heap.size W u:=hW.trans (hb.mono hz);refine⟨_,rfl,fun _=>hu, ?_⟩;refine aie 7 11 ?_ ?_
  ·refine ahW (f:=78) (args:= #[.agg #[.int .i64 h,.slice ta nt tc,.slice la nl lc,.slice pa np pc],.bool bt]) (w':=u) (by go_simp) ((H78 _ hu).mono ?_);rintro e u1 ⟨rfl,hb1⟩;have hu1:Below W.heap.size W u1:=hu.trans (hb1.mono hu.size);refine⟨_,rfl,fun _=>hu1, ?_⟩;refine ahN 8 (.tuple #[.agg #[.int .i64 h',.slice ta' n1 tc',.slice la' n2 lc',.slice pa' n3 pc'],.int .i64 al]) hu1 ?_ (hr:=fun u hu=>by go_simp);refine ahN 9 (.agg #[.int .i64 h',.slice ta' n1 tc',.slice la' n2 lc',.slice pa' n3 pc']) hu1 ?_ (hr:=fun u hu=>by go_simp);refine ahN 10 (.int .i64 al) hu1 ?_ (hr:=fun u hu=>by go_simp);refine ahQ 11 (h:=ah0 (v:= .pointer (some ⟨u1.heap.size,0,none⟩)) (w':=u1.alloc (.cells #[.int .i64 0,.slice none 0 0,.slice none 0 0,.slice none 0 0] 89)) (by go_simp) ⟨fun _=>hu1.alloc hu1.size _, ?_⟩);have hr:=ahT u1 89 (.int .i64 0) (.slice none 0 0) (.slice none 0 0) (.slice none 0 0);have hua:=hu1.alloc hu1.size (.cells #[.int .i64 0,.slice none 0 0,.slice none 0 0,.slice none 0 0] 89);have hus:=hu1.size;generalize u1.alloc (.cells #[.int .i64 0,.slice none 0 0,.slice none 0 0,.slice none 0 0] 89)=ua at *;generalize u1.heap.size=b6 at *;obtain⟨g1,g2⟩:=fin b6 ua hus hua ⟨_,_,_,_,hr⟩;refine ahQ 12 (h:=ah1 (w':=((((ua.setCell ⟨b6,0,none⟩ (.int .i64 h')).setCell ⟨b6,1,none⟩ (.slice ta' n1 tc')).setCell ⟨b6,2,none⟩ (.slice la' n2 lc')).setCell ⟨b6,3,none⟩ (.slice pa' n3 pc'))) ?_ ⟨fun _=>g2, ?_⟩)
   ·obtain⟨hz',c0,c1,c2,c3,f0,f1,f2,f3⟩:=hr;go_simp
   refine ahN 13 (.int .i64 al) g2 ?_ (hr:=fun u hu=>by go_simp);refine ahZ ?_;have hK:=K _ _ hus g2 g1;clear K;go_simp;exact hK
  ·refine ah0 (v:= .pointer (some ⟨u.heap.size,0,none⟩)) (w':=u.alloc (.cells #[.int .i64 0,.slice none 0 0,.slice none 0 0,.slice none 0 0] 89)) (by go_simp) ⟨fun _=>hu.alloc hu.size _, ?_⟩;have hn:=ahT u 89 (.int .i64 0) (.slice none 0 0) (.slice none 0 0) (.slice none 0 0);have hua:=hu.alloc hu.size (.cells #[.int .i64 0,.slice none 0 0,.slice none 0 0,.slice none 0 0] 89);have hus:=hu.size;generalize u.alloc (.cells #[.int .i64 0,.slice none 0 0,.slice none 0 0,.slice none 0 0] 89)=ua at *;generalize u.heap.size=b6 at *;refine ahQ 7 (h:= ?_);refine ahW (f:=78) (args:= #[.agg #[.int .i64 h,.slice ta nt tc,.slice la nl lc,.slice pa np pc],.bool bt]) (w':=ua) (by go_simp) ((H78 _ hua).mono ?_);rintro e u1 ⟨rfl,hb1⟩;have hu1:Below W.heap.size W u1:=hua.trans (hb1.mono hua.size);refine⟨_,rfl,fun _=>hu1, ?_⟩;have hr:=hn.below hb1 hn.z;refine ahN 8 (.tuple #[.agg #[.int .i64 h',.slice ta' n1 tc',.slice la' n2 lc',.slice pa' n3 pc'],.int .i64 al]) hu1 ?_ (hr:=fun u hu=>by go_simp);refine ahN 9 (.agg #[.int .i64 h',.slice ta' n1 tc',.slice la' n2 lc',.slice pa' n3 pc']) hu1 ?_ (hr:=fun u hu=>by go_simp);refine ahN 10 (.int .i64 al) hu1 ?_ (hr:=fun u hu=>by go_simp);obtain⟨g1,g2⟩:=fin b6 u1 hus hu1 ⟨_,_,_,_,hr⟩;refine ahQ 12 (h:=ah1 (w':=((((u1.setCell ⟨b6,0,none⟩ (.int .i64 h')).setCell ⟨b6,1,none⟩ (.slice ta' n1 tc')).setCell ⟨b6,2,none⟩ (.slice la' n2 lc')).setCell ⟨b6,3,none⟩ (.slice pa' n3 pc'))) ?_ ⟨fun _=>g2, ?_⟩)
   ·obtain⟨hz',c0,c1,c2,c3,f0,f1,f2,f3⟩:=hr;go_simp
   refine ahN 13 (.int .i64 al) g2 ?_ (hr:=fun u hu=>by go_simp);refine ahZ ?_;have hK:=K _ _ hus g2 g1;clear K;go_simp;exact hK
 ·refine ah0 (v:= .pointer (some ⟨W.drew.heap.size,0,none⟩)) (w':=W.drew.alloc (.cells #[.int .i64 0,.slice none 0 0,.slice none 0 0,.slice none 0 0] 89)) (by go_simp) ⟨fun _=>hW.alloc hW.size _, ?_⟩;have hn:=ahT W.drew 89 (.int .i64 0) (.slice none 0 0) (.slice none 0 0) (.slice none 0 0);have hua:=hW.alloc hW.size (.cells #[.int .i64 0,.slice none 0 0,.slice none 0 0,.slice none 0 0] 89);have hus:=hW.size;generalize W.drew.alloc (.cells #[.int .i64 0,.slice none 0 0,.slice none 0 0,.slice none 0 0] 89)=ua at *;generalize W.drew.heap.size=b6 at *;refine ahQ 6 (h:= ?_);refine ahW (f:=69) (args:= #[.int .i64 n,.int .i64 0,.int .i64 ((nl:Int)-1)]) (w':=ua) (by go_simp) ((H69 _ hua).mono ?_);rintro e u ⟨rfl,hb⟩;have hu:Below W.heap.size W u:=hua.trans (hb.mono hua.size);refine⟨_,rfl,fun _=>hu, ?_⟩;have hr0:=hn.below hb hn.z;refine ahQ 7 (h:= ?_);refine ahW (f:=78) (args:= #[.agg #[.int .i64 h,.slice ta nt tc,.slice la nl lc,.slice pa np pc],.bool bt]) (w':=u) (by go_simp) ((H78 _ hu).mono ?_);rintro e u1 ⟨rfl,hb1⟩;have hu1:Below W.heap.size W u1:=hu.trans (hb1.mono hu.size);refine⟨_,rfl,fun _=>hu1, ?_⟩;have hr:=hr0.below hb1 hr0.z;refine ahN 8 (.tuple #[.agg #[.int .i64 h',.slice ta' n1 tc',.slice la' n2 lc',.slice pa' n3 pc'],.int .i64 al]) hu1 ?_ (hr:=fun u hu=>by go_simp);refine ahN 9 (.agg #[.int .i64 h',.slice ta' n1 tc',.slice la' n2 lc',.slice pa' n3 pc']) hu1 ?_ (hr:=fun u hu=>by go_simp);refine ahN 10 (.int .i64 al) hu1 ?_ (hr:=fun u hu=>by go_simp);obtain⟨g1,g2⟩:=fin b6 u1 hus hu1 ⟨_,_,_,_,hr⟩;refine ahQ 12 (h:=ah1 (w':=((((u1.setCell ⟨b6,0,none⟩ (.int .i64 h')).setCell ⟨b6,1,none⟩ (.slice ta' n1 tc')).setCell ⟨b6,2,none⟩ (.slice la' n2 lc')).setCell ⟨b6,3,none⟩ (.slice pa' n3 pc'))) ?_ ⟨fun _=>g2, ?_⟩)
  ·obtain⟨hz',c0,c1,c2,c3,f0,f1,f2,f3⟩:=hr;go_simp
  refine ahN 13 (.int .i64 al) g2 ?_ (hr:=fun u hu=>by go_simp);refine ahZ ?_;have hK:=K _ _ hus g2 g1;clear K;go_simp;exact hK
theorem ajo (V:BkV) (B:Bk) (al:Int): ∃(h:Int) (U:BkV) (n1 n2 n3:Nat),bU V B al= .tuple #[.agg #[.int .i64 h,.slice U.ta n1 U.tc,.slice U.la n2 U.lc,.slice U.pa n3 U.pc],.int .i64 al]/\(al=0->h=B.hours/\U=V/\n1=B.towns.length/\n2=B.links.length/\n3=B.pairs.length):=by
 by_cases h:al=0
 ·subst h;exact⟨B.hours,V,_,_,_,jE,fun _=>⟨rfl,rfl,rfl,rfl,rfl⟩⟩
 ·exact⟨0,⟨none,none,none,0,0,0⟩,0,0,0,lC h,fun e=>absurd e h⟩
def ah3 (B:Bk) (k:Int):Value:=
 if fF B (btw k 0 ((B.links.length:Int)-1))=0 then (if k<B.spokes then .tuple #[.int .i64 0,.int .i64 7] else .tuple #[.int .i64 (kD B k),.int .i64 0])
 else .tuple #[.int .i64 0,.int .i64 (fF B (btw k 0 ((B.links.length:Int)-1)))]
theorem c51 (V:BkV) (B:Bk) (k:Int) (w:World) (hs:aB w V B) (hv:Vars w):Calls tP 51 #[V.val B,.int .i64 k] w fun e w'=>e= .returned (ah3 B k)/\Below w.heap.size w w':=by
 obtain⟨ta,la,pa,tc,lc,pc⟩:=V;have hnl:=hs.nl;have hnt:=hs.tc;simp only at hnt;obtain⟨h',⟨ta',la',pa',tc',lc',pc'⟩,n1,n2,n3,hres,hy⟩:=ajo ⟨ta,la,pa,tc,lc,pc⟩ B (fF B (btw k 0 ((B.links.length:Int)-1)));have Hs:=lH hs;have Hv:=lH hv;have Hy:=lH hy;have HE:Hid (ah3 B k=if fF B (btw k 0 ((B.links.length:Int)-1))=0 then (if k<B.spokes then .tuple #[.int .i64 0,.int .i64 7] else .tuple #[.int .i64 (kD B k),.int .i64 0]) else .tuple #[.int .i64 0,.int .i64 (fF B (btw k 0 ((B.links.length:Int)-1)))]):=lH rfl;have HG:Hid (fF B (btw k 0 ((B.links.length:Int)-1))=0->Good B):=lH fun h=>gY (by
  unfold fF at h
  split at h
  ·assumption
  ·contradiction)
 have HW:Hid (Good B-> ∀u,aB u ⟨ta,la,pa,tc,lc,pc⟩ B->Vars u->Calls tP 89 #[.agg #[.int .i64 B.hours,.slice ta B.towns.length tc,.slice la B.links.length lc,.slice pa B.pairs.length pc],.int .i64 k] u fun e u'=>e= .returned (.int .i64 (kD B k))/\Below u.heap.size u u'):=lH fun hG u h1 h2=>(c89 ⟨ta,la,pa,tc,lc,pc⟩ B hG k u h1 h2).mono fun _ _ h=>⟨h.1,h.2.2⟩;clear hs hv hy;go_enter Tryd.func51,Tryd.ntmps51
 go_wp2_with fail
 have hr0:=ahT w 26 (.int .i64 B.hours) (.slice ta B.towns.length tc) (.slice la B.links.length lc) (.slice pa B.pairs.length pc);have hb0:=(bR w.heap.size w).alloc (nR _) (.cells #[.int .i64 B.hours,.slice ta B.towns.length tc,.slice la B.links.length lc,.slice pa B.pairs.length pc] 26);generalize w.alloc (.cells #[.int .i64 B.hours,.slice ta B.towns.length tc,.slice la B.links.length lc,.slice pa B.pairs.length pc] 26)=W at *;have HBW:=lH hb0;refine aiZ (BkV.val ⟨ta,la,pa,tc,lc,pc⟩ B) (.int .i64 k) (.agg #[.int .i64 B.hours,.slice ta B.towns.length tc,.slice la B.links.length lc,.slice pa B.pairs.length pc]) _ w.heap.size k la B.links.length lc (btw k 0 ((B.links.length:Int)-1)) h' ta' la' pa' tc' lc' pc' n1 n2 n3 (fF B (btw k 0 ((B.links.length:Int)-1))) W rfl hnl rfl B.hours ta pa B.towns.length B.pairs.length tc pc rfl hr0.c0 hr0.c1 hr0.c2 hr0.c3 (fun u hu=>(c69 k 0 _ u).mono fun e u' h=>⟨h.1,by rw[<-h.2];exact bR _ _⟩) (fun u hu=> ?_) fun b6 w1 hb6 hbw hrow=> ?_
 ·refine(c78 ⟨ta,la,pa,tc,lc,pc⟩ B _ u (Hs.out.below (HBW.out.trans (hu.mono HBW.out.size)) (nR _)) (Hv.out.v2.below (HBW.out.trans (hu.mono HBW.out.size)) (nR _))).mono ?_;rintro e u' ⟨rfl,hb⟩;exact⟨by rw[hres],hb⟩
 have HW1:=lH (HBW.out.trans (hbw.mono HBW.out.size));clear hres hb0 hr0 hbw;generalize fF B (btw k 0 ((B.links.length:Int)-1))=al at *;by_cases hal:al=0
 ·obtain⟨rfl,hU,rfl,rfl,rfl⟩:=Hy.out hal
  cases hU
  have hG:=HG.out hal;subst hal;have HE1:Hid (ah3 B k=if k<B.spokes then .tuple #[.int .i64 0,.int .i64 7] else .tuple #[.int .i64 (kD B k),.int .i64 0]):=lH (HE.out.trans (if_pos rfl));have hF:=hG.fine.towns;have Hsp:Hid ((B.towns.length:Int)-1=(B.spokes:Int)):=lH (by show _=((B.towns.length-1 :Nat):Int);omega);have H88:=lH (fun u=>c88 B.hours ta B.towns.length tc (.slice la B.links.length lc) (.slice pa B.pairs.length pc) u (by unfold maxLen;omega));obtain⟨hz',e0,e1,e2,e3,f0,f1,f2,f3⟩:=hrow;have hrow:=aij e0 e1 e2 e3 f0 f1 f2 f3
  go_wp2_with fail
  refine(H88.out _).mono ?_;rintro e w2 ⟨rfl,hb2⟩;rw[Hsp.out];have hr2:=hrow.below hb2 hrow.z;have HW2:=lH (HW1.out.trans (hb2.mono HW1.out.size));have hbk:=Hs.out.below HW2.out (nR _);have hvr:=Hv.out.below HW2.out;have Hbv:=lH (And.intro hbk hvr);clear e0 e1 e2 e3 f0 f1 f2 f3 hb2 hrow hbk hvr;obtain⟨_,e0,e1,e2,e3,f0,f1,f2,f3⟩:=hr2;by_cases hk:k<(B.spokes:Int)
  ·have HE2:=lH (HE1.out.trans (if_pos hk));go_wp2;refine bodyPost_ret (v:= .tuple #[.int .i64 0,.int .i64 7]) (by simp[results,Tryd.results51,go_sem]) rfl ⟨by rw[HE2.out],HW2.out⟩
  ·have HE2:=lH (HE1.out.trans (if_neg hk))
   go_wp2_with fail
   refine(HW.out hG _ Hbv.out.1 Hbv.out.2).mono ?_;rintro e w3 ⟨rfl,hb3⟩;have HW3:=lH (HW2.out.trans (hb3.mono HW2.out.size));generalize kD B k=wk at *;go_wp2;refine bodyPost_ret (v:= .tuple #[.int .i64 wk,.int .i64 0]) (by simp[results,Tryd.results51,go_sem]) rfl ⟨by rw[HE2.out],HW3.out⟩
 ·have hne:(al != 0)=true:=by simpa using hal
  have HE1:=lH (HE.out.trans (if_neg hal));go_wp2;refine bodyPost_ret (v:= .tuple #[.int .i64 0,.int .i64 al]) (by simp[results,Tryd.results51,go_sem]) rfl ⟨by rw[HE1.out],HW1.out⟩
end Go.Proofs.YtaikibfkggglgaaDoor
