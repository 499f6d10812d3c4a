/- A part of the proof of a law; no conditions of its own. -/
import Derived.Test.YtaikibfkggglgaaDoorAnyOrder01
set_option maxRecDepth 100000
open Go renaming undef→ud
open Nat renaming le_refl→nR
open Go.Proofs.Tryd renaming prog→tP
open List renaming getElem?_eq_getElem→lG
open List renaming getElem?_eq_some_iff→lS
open Go.World renaming block_lt_of_cell?→wBk
open List renaming getD_eq_getElem?_getD→lD
open Nat renaming lt_of_lt_of_le→nL
set_option maxHeartbeats 4000000
namespace Go.Proofs.YtaikibfkggglgaaDoor
open Go.RowKit Go.Rent Go.Tp Go.Conc
def agd (p q:Pr):Prop:=q.one=p.one/\q.two=p.two/\q.calls.length=p.calls.length/\ ∀(m:Nat) (x y:Int×Int),p.calls[m]? =some x->q.calls[m]? =some y->0<=x.1/\x.1<=x.2/\x.1<=y.1/\x.2<=y.2
structure Dom (A B:Bk):Prop where
 hours:B.hours=A.hours
 towns:B.towns=A.towns
 links:B.links=A.links
 len:B.pairs.length=A.pairs.length
 at_: ∀(i:Nat) (p q:Pr),A.pairs[i]? =some p->B.pairs[i]? =some q->agd p q
theorem afZ {α β:Type} {l:List α} {m:List β} (h:m.length=l.length) (i:Nat):(∃x y,l[i]? =some x/\m[i]? =some y)\/(l[i]? =none/\m[i]? =none):=by
 by_cases hi:i<l.length
 ·exact .inl ⟨_,_,lG hi,lG (by omega)⟩
 ·exact .inr ⟨List.getElem?_eq_none (by omega),List.getElem?_eq_none (by omega)⟩
theorem Dom.calls {A B:Bk} (d:Dom A B) (most:Bool) (h i:Nat):A.call most h i<=B.call most h i:=by
 unfold Bk.call
 rcases afZ d.len i with ⟨p,q,h1,h2⟩ |⟨h1,h2⟩
 ·obtain⟨_,_,hl,hc⟩:=d.at_ i p q h1 h2;rw[h1,h2];simp only[Option.bind_some]
  rcases afZ hl h with ⟨x,y,g1,g2⟩ |⟨g1,g2⟩
  ·have:=hc h x y g1 g2;rw[g1,g2]
   cases most<;>simp<;>omega
  ·rw[g1,g2];simp
 ·rw[h1,h2];simp
theorem agI {p q:Pr} (h:agd p q) (hb:jc q.calls=false):jc p.calls=false:=by
 obtain⟨_,_,hl,hc⟩:=h;unfold jc at *;rw[List.any_eq_false] at *;intro x hx;obtain⟨m,hm,rfl⟩:=List.getElem_of_mem hx;have h1:=lG hm;have h2:=lG (show m<q.calls.length by omega);have h3:=hc m _ _ h1 h2;have h4:=hb _ (List.getElem_mem (show m<q.calls.length by omega));simp only[dw,Bool.not_eq_true',decide_eq_false_iff_not,Decidable.not_not] at *;omega
theorem agn {nt hours:Int}: ∀(ps qs:List Pr) (S:List (Int×Int)),qs.length=ps.length->(∀(i:Nat) (p q:Pr),ps[i]? =some p->qs[i]? =some q->agd p q)->fP nt hours S qs=0->fP nt hours S ps=0
 | [],_,_,_,_,_=>rfl
 |p::ps,[],_,h,_,_=>by simp at h
 |p::ps,q::qs,S,h,hp,h0=>by
  have h1:=hp 0 p q rfl rfl;have h1':=h1;obtain⟨e1,e2,e3,_⟩:=h1;unfold fP at h0 ⊢;rw[e1,e2,e3] at h0
  split at h0
  ·cases h0
  rename_i c1;rw[if_neg c1]
  split at h0
  ·cases h0
  rename_i c2;rw[if_neg c2]
  split at h0
  ·cases h0
  rename_i c3;rw[if_neg c3]
  split at h0
  ·rename_i c4;rw[if_pos c4]
   split at h0
   ·cases h0
   rename_i c5;rw[if_neg (by rw[agI h1' (by simpa using c5)];decide)];exact agn ps qs _ (by simpa using h) (fun i a b ha hb=>hp (i+1) a b (by simpa using ha) (by simpa using hb)) h0
  ·cases h0
theorem agq {B:Bk} (h0:iZ B.hours=0) (h1:fM B.towns=0) (h2:dA B.towns.length B.links=0):B.alarm=dR B.towns.length B.hours B.pairs:=by
 unfold Bk.alarm;simp only[kH,alK];rw[if_pos h0,if_pos h1,if_pos h2]
 split
 ·rename_i h;exact h.symm
 ·rfl
theorem Dom.alarm {A B:Bk} (d:Dom A B) (h:B.alarm=0):A.alarm=0:=by
 obtain⟨h0,h1,h2,h3⟩:=GX h;rw[d.hours] at h0 h3;rw[d.towns] at h1 h2 h3;rw[d.links] at h2;rw[agq h0 h1 h2];unfold dR at h3 ⊢;rw[d.len] at h3
 split at h3
 ·cases h3
 ·rename_i c;rw[if_neg c];exact agn _ _ _ d.len d.at_ h3
theorem ais {nt:Int}: ∀(l:List Lnk) (k:Nat) (S:List (Int×Int)),(∀(j:Nat) (x:Lnk),l[j]? =some x->btw x.one 0 (nt-1)=true/\btw x.two 0 (nt-1)=true/\ ¬dD nt (k+j) x.one x.two/\bJ x.steps=0/\bZ S x.one x.two=false)->
  (∀(i j:Nat) (x y:Lnk),i<j->l[i]? =some x->l[j]? =some y-> ¬(x.one=y.one/\x.two=y.two))->fO nt k S l=0
 | [],_,_,_,_=>rfl
 |x::l,k,S,h,hd=>by
  obtain⟨h1,h2,h3,h4,h5⟩:=h 0 x rfl;unfold fO;rw[if_neg (by rw[h1,h2];decide),if_neg (by simpa using h3),if_neg (by rw[h5];decide),if_pos h4];refine ais l (k+1) _ (fun j y hy=> ?_) fun i j a b hij ha hb=>hd (i+1) (j+1) a b (by omega) (by simpa using ha) (by simpa using hb);obtain⟨g1,g2,g3,g4,g5⟩:=h (j+1) y (by simpa using hy);refine⟨g1,g2,by rw[show k+1+j=k+(j+1) by omega];exact g3,g4, ?_⟩;rw[Ce,g5,Bool.or_false];have:=hd 0 (j+1) x y (by omega) rfl (by simpa using hy);simpa using this
theorem ait {nt hours:Int}: ∀(l:List Pr) (S:List (Int×Int)),(∀(j:Nat) (x:Pr),l[j]? =some x->btw x.one 0 (nt-1)=true/\btw x.two 0 (nt-1)=true/\x.one<x.two/\(x.calls.length:Int)=hours/\jc x.calls=false/\bZ S x.one x.two=false)->
  (∀(i j:Nat) (x y:Pr),i<j->l[i]? =some x->l[j]? =some y-> ¬(x.one=y.one/\x.two=y.two))->fP nt hours S l=0
 | [],_,_,_=>rfl
 |x::l,S,h,hd=>by
  obtain⟨h1,h2,h3,h4,h5,h6⟩:=h 0 x rfl;unfold fP;rw[if_neg (by rw[h1,h2];decide),if_neg (by omega),if_neg (by rw[h6];decide),if_pos h4,if_neg (by rw[h5];decide)];refine ait l _ (fun j y hy=> ?_) fun i j a b hij ha hb=>hd (i+1) (j+1) a b (by omega) (by simpa using ha) (by simpa using hb);obtain⟨g1,g2,g3,g4,g5,g6⟩:=h (j+1) y (by simpa using hy);refine⟨g1,g2,g3,g4,g5, ?_⟩;rw[Ce,g6,Bool.or_false];have:=hd 0 (j+1) x y (by omega) rfl (by simpa using hy);simpa using this
theorem aiP {B:Bk} (h:B.alarm=0) {i j:Nat} {x y:Lnk} (hne:i≠j) (hx:B.links[i]? =some x) (hy:B.links[j]? =some y): ¬(x.one=y.one/\x.two=y.two):=by
 obtain⟨_,_,h2,_⟩:=GX h;unfold dA at h2
 split at h2
 ·have:=(adT _ _ _ h2).2
  rcases Nat.lt_or_ge i j with c |c
  ·exact this i j x y c hx hy
  ·intro e;exact this j i y x (by omega) hy hx ⟨e.1.symm,e.2.symm⟩
 ·cases h2
theorem aiQ {B:Bk} (h:B.alarm=0) {i j:Nat} {x y:Pr} (hne:i≠j) (hx:B.pairs[i]? =some x) (hy:B.pairs[j]? =some y): ¬(x.one=y.one/\x.two=y.two):=by
 obtain⟨_,_,_,h3⟩:=GX h;unfold dR at h3
 split at h3
 ·cases h3
 have:=(FQ _ _ h3).2
 rcases Nat.lt_or_ge i j with c |c
 ·exact this i j x y c hx hy
 ·intro e;exact this j i y x (by omega) hy hx ⟨e.1.symm,e.2.symm⟩
theorem aiu {A B:Bk} (hB:B.alarm=0) (e1:A.hours=B.hours) (e2:A.towns=B.towns) (hl1:B.spokes<=A.links.length) (hl2:A.links.length<=B.links.length) (hp:A.pairs.length<=B.pairs.length)
  (σ π:Nat->Nat) (hσ: ∀(j:Nat) (x:Lnk),A.links[j]? =some x->B.links[σ j]? =some x/\(j<B.spokes->σ j=j)/\(B.spokes<=j->B.spokes<=σ j)) (iσ: ∀i j,i<j->j<A.links.length->σ i≠σ j)
  (hπ: ∀(j:Nat) (x:Pr),A.pairs[j]? =some x->B.pairs[π j]? =some x) (iπ: ∀i j,i<j->j<A.pairs.length->π i≠π j):A.alarm=0:=by
 obtain⟨h0,h1,h2,h3⟩:=GX hB;have hG:=gY hB;have hf:=hG.fine;have ht:=hf.towns;have hll:=hf.links;have hsp:B.spokes=B.towns.length-1:=rfl;have hL:dA A.towns.length A.links=0:=by
  unfold dA;rw[e2,if_pos (by simp[btw];omega)];refine ais _ _ _ (fun j x hx=> ?_) fun i j x y hij hx hy=> ?_
  ·obtain⟨g1,g2,g3⟩:=hσ j x hx;obtain⟨k1,k2,k3,k4⟩:=hG.links _ x g1;refine⟨k1,k2, ?_,k4,rfl⟩;rw[Nat.zero_add];unfold dD at k3 ⊢;by_cases c:j<B.spokes
   ·rw[g2 c] at k3;exact k3
   ·have:=g3 (by omega);omega
  ·exact aiP hB (iσ i j hij (lS.1 hy).1) (hσ i x hx).1 (hσ j y hy).1
 rw[agq (by rw[e1];exact h0) (by rw[e2];exact h1) hL,e1,e2];have hpp:=hf.pairs;unfold dR;rw[if_neg (by omega)];refine ait _ _ (fun j x hx=> ?_) fun i j x y hij hx hy=> ?_
 ·obtain⟨k1,k2,k3,k4,k5⟩:=hG.pairs _ x (hπ j x hx);exact⟨k1,k2,k3,k4,k5,rfl⟩
 ·exact aiQ hB (iπ i j hij (lS.1 hy).1) (hπ i x hx) (hπ j y hy)
structure Emb (A B:Bk) (σ:Nat->Nat):Prop where
 alA:A.alarm=0
 alB:B.alarm=0
 sp:B.spokes=A.spokes
 hours:B.hours=A.hours
 rng: ∀j,A.spokes<=j->j<A.links.length->A.spokes<=σ j/\σ j<B.links.length/\B.one (σ j)=A.one j/\B.two (σ j)=A.two j
structure Rel (A B:Bk) (σ:Nat->Nat) (T U:Nat->Int):Prop where
 hub: ∀k,k<A.spokes->U k=T k
 dir: ∀j,A.spokes<=j->j<A.links.length->U (σ j)=T j
 no: ∀k,A.spokes<=k->k<B.links.length->(∀j,A.spokes<=j->j<A.links.length->σ j≠k)->U k=0
section
variable {A B:Bk} {σ:Nat->Nat} {T U:Nat->Int}
theorem Emb.direct (e:Emb A B σ) (a b:Int) (c:0<=A.direct a b):B.direct a b=(σ (A.direct a b).toNat:Nat):=by
 have dirA:=pF A (gY e.alA).fine a b;obtain⟨j,hj⟩: ∃j:Nat,A.direct a b=(j:Int):=⟨_,(Int.toNat_of_nonneg c).symm⟩;obtain⟨r1,r2,r3,r4⟩:=e.rng j (by omega) (by omega);have hb:=(aes e.alA a b (j:=j) (by omega) (by omega)).2 hj;rw[hj,Int.toNat_natCast];exact(aes e.alB a b (j:=σ j) (by have:=e.sp;omega) r2).1 ⟨r3.trans hb.1,r4.trans hb.2⟩
theorem Emb.free (e:Emb A B σ) (r:Rel A B σ T U) (a b:Int):adr B U a b=adr A T a b:=by
 have dirA:=pF A (gY e.alA).fine a b;have dirB:=pF B (gY e.alB).fine a b;have hs:=e.sp;unfold adr;by_cases c:0<=A.direct a b
 ·rw[e.direct a b c,if_pos c,if_pos (by omega),Int.toNat_natCast];exact r.dir _ (by omega) (by omega)
 ·rw[if_neg c];by_cases d:0<=B.direct a b
  ·rw[if_pos d];obtain⟨k,hk⟩: ∃k:Nat,B.direct a b=(k:Int):=⟨_,(Int.toNat_of_nonneg d).symm⟩;rw[hk,Int.toNat_natCast];refine r.no k (by omega) (by omega) fun j h1 h2 hjk=> ?_;obtain⟨r1,r2,r3,r4⟩:=e.rng j h1 h2;rw[hjk] at r2 r3 r4;have hB:=(aes e.alB a b (j:=k) (by omega) r2).2 hk;have:=(aes e.alA a b (j:=j) h1 h2).1 ⟨r3.symm.trans hB.1,r4.symm.trans hB.2⟩;omega
  ·rw[if_neg d]
theorem Emb.add (e:Emb A B σ) (r:Rel A B σ T U) (n a b:Int) {k:Nat} (hk:k<A.spokes):incr B U n a b k=incr A T n a b k:=by
 have dirA:=pF A (gY e.alA).fine a b;have dirB:=pF B (gY e.alB).fine a b;have hs:=e.sp;unfold incr;rw[e.free r,if_neg (show ¬B.direct a b=k by omega),if_neg (show ¬A.direct a b=k by omega)]
end
theorem aiv {A B:Bk} {T U:Nat->Int}: ∀n i c,(∀h,i<=h->h<i+n-> ∀m,(B.lackIn U m h<0↔A.lackIn T m h<0))->aQ B U n i c=aQ A T n i c
 | 0,_,_,_=>rfl
 |n+1,i,c,hh=>by
  unfold aQ;have h1:=hh i (nR _) (by omega) false;have h2:=hh i (nR _) (by omega) true;have e:(if 0<=B.lackIn U true i then (0 :Int) else c)=if 0<=A.lackIn T true i then 0 else c:=by
   split<;>split<;>first |rfl |omega
  rw[e,aiv n (i+1) _ fun h a b=>hh h (by omega) (by omega)]
  split<;>split<;>first |rfl |omega
theorem aiw {A B:Bk} {T U:Nat->Int} (hh:B.hours=A.hours) (hs:B.spokes=A.spokes) (hu: ∀k,k<A.spokes->U k=T k) (hl: ∀m h k,k<A.spokes->B.inn U m h k=A.inn T m h k) (c:Int):aQ B U B.hours.toNat 0 c=aQ A T A.hours.toNat 0 c:=by
 rw[hh];refine aiv _ _ _ fun h _ _ m=> ?_;rw[vC,vC,hs];refine⟨fun q j hj=> ?_,fun q j hj=> ?_⟩<;>have h1:=q j hj<;>have h2:=hl m h j hj<;>have h3:=hu j hj<;>omega
theorem ah8 {A B:Bk} (hA:A.alarm=0) (hB:B.alarm=0) {mA mB:Int->Bool}
  (H: ∀T:Nat->Int,(∀k,0<=T k/\T k<=20)->(∀k,A.spokes<=k->mA (k:Int)=false->T k=0)->aQ A T A.hours.toNat 0 1=1->
   ∃U:Nat->Int,(∀k,0<=U k/\U k<=20)/\(∀k,B.spokes<=k->mB (k:Int)=false->U k=0)/\(∀c,aQ B U B.hours.toNat 0 c=aQ A T A.hours.toNat 0 c)/\fZ B U B.links.length=fZ A T A.links.length):
  (aC B mB).2<=(aC A mA).2:=by
 have hG:=gY hA;obtain⟨h1,h2,h3,h4⟩:=adK (B:=A) (may:=mA) hA;obtain⟨t,hd,hl,ht,e1,e2⟩:=aea hG mA;obtain⟨_,_,_,hd4⟩:=ad4 hG.fine.links.1 hd;have hz: ∀k,A.spokes<=k->mA (k:Int)=false->trk (aC A mA).1 k=0:=fun k hk hm=>by
  have h5:=hd4 k hk;have h6:=(MV ht (by decide) k).1;rw[e1,adD,if_neg (show ¬k<A.spokes by omega)];unfold iY at h5;rw[hm] at h5;simp at h5;omega
 obtain⟨U,u1,u2,u3,u4⟩:=H _ (fun k=>fK (h2 k)) hz h3;have hyl:((List.range B.links.length).map U).length=B.links.length:=by simp
 have hy: ∀k,k<B.links.length->trk ((List.range B.links.length).map U) k=U k:=fun k hk=>by
  unfold trk;rw[lD,List.getElem?_map,List.getElem?_range hk];rfl
 have hyo: ∀k,B.links.length<=k->trk ((List.range B.links.length).map U) k=0:=fun k hk=>by
  unfold trk;rw[lD,List.getElem?_eq_none (by simpa using hk)];rfl
 have hfB:=(gY hB).fine;have hcl:aQ B (trk ((List.range B.links.length).map U)) B.hours.toNat 0 1=1:=by
  refine Eq.trans ?_ ((u3 1).trans h3);refine aiw (A:=B) rfl rfl (fun k hk=>hy k (by have:=hfB.links.1;omega)) (fun m h k hk=> ?_) 1;exact congrFun (adQ hfB (fun j h1 h2=>by rw[hy j h2]) m h) k
 have hco:fZ B (trk ((List.range B.links.length).map U)) B.links.length=fZ B U B.links.length:=by
  have: ∀n,n<=B.links.length->fZ B (trk ((List.range B.links.length).map U)) n=fZ B U n:=by
   intro n
   induction n with
   |zero=>intro _;rfl
   |succ n ih=>intro hn;unfold fZ;rw[ih (by omega),hy n (by omega)]
  exact this _ (nR _)
 have h8:=adS (B:=B) (may:=mB) (gY hB) (xs:=(List.range B.links.length).map U) hyl (adZ fun k hk=>by rw[hy k (by simpa using hk)];exact u1 k) (fun k hk hm=>by
  by_cases c:k<B.links.length
  ·rw[hy k c];exact u2 k hk hm
  ·exact hyo k (by omega)) hcl
 have h9:=aer h8;unfold adt at h9;rw[hco,u4] at h9;rw[h4];exact h9
theorem aix {A B:Bk} {i j:Nat} (h:B.links[i]? =A.links[j]?) (n:Int):bH B (i:Int) n=bH A (j:Int) n:=by
 unfold bH;rw[Int.toNat_natCast,Int.toNat_natCast,h]
def sumTo (f:Nat->Int):Nat->Int
 | 0=>0
 |n+1=>sumTo f n+f n
theorem sumTo_congr {f g:Nat->Int}: ∀n,(∀i,i<n->f i=g i)->sumTo f n=sumTo g n
 | 0,_=>rfl
 |n+1,h=>by unfold sumTo;rw[sumTo_congr n fun i hi=>h i (by omega),h n (by omega)]
theorem ahX (f:Nat->Int) (s:Nat): ∀m,sumTo f (s+m)=sumTo f s+sumTo (fun i=>f (s+i)) m
 | 0=>by simp[sumTo]
 |m+1=>by
  show sumTo f (s+m)+f (s+m)=sumTo f s+(sumTo (fun i=>f (s+i)) m+f (s+m))
  rw[ahX f s m];omega
theorem aiR (f:Nat->Int) (n:Nat):sumTo f (n+1)=f 0+sumTo (fun i=>f (i+1)) n:=by
 rw[show n+1=1+n by omega,ahX f 1 n];have:sumTo (fun i=>f (1+i)) n=sumTo (fun i=>f (i+1)) n:=sumTo_congr n fun i _=>by rw[Nat.add_comm]
 rw[this];simp[sumTo]
theorem akt: ∀(n:Nat) (f:Nat->Int),sumTo (fun i=>f (n-1-i)) n=sumTo f n
 | 0,_=>rfl
 |n+1,f=>by
  rw[aiR];have:sumTo (fun i=>f (n+1-1-(i+1))) n=sumTo (fun i=>f (n-1-i)) n:=sumTo_congr n fun i _=>by rw[show n+1-1-(i+1)=n-1-i by omega]
  rw[this,akt n f];simp only[Nat.add_sub_cancel,Nat.sub_zero]
  show f n+sumTo f n=sumTo f n+f n
  omega
theorem ahY (B:Bk) (T:Nat->Int): ∀n,fZ B T n=sumTo (fun i=>bH B (i:Int) (T i)) n
 | 0=>rfl
 |n+1=>by unfold fZ sumTo;rw[ahY B T n]
theorem ah9 (B:Bk) (T c:Nat->Int) (k:Nat): ∀n,adu B T c k n=sumTo (fun i=>incr B T (c i) (B.pone i) (B.ptwo i) k) n
 | 0=>rfl
 |n+1=>by unfold adu sumTo;rw[ah9 B T c k n]
theorem aiG {n:Nat} {w u:World} {p:Addr} {v:Value} (hb:Below n w u) (h:w.cell? p=some v) (hn:w.heap.size<=n:=by exact nR _):u.cell? p=some v:=(hb.cell (nL (wBk w _ h) hn)).trans h
section
variable {f:FuncId} {ops:Array Oper} {kk:List Item} {R:Value->World->Prop}
theorem acD {w u x:World} (h:Kept w.heap.size w u) (k:Kept u.heap.size u x):Kept w.heap.size w x:=h.trans (k.mono h.size)
def YG (ops:Array Oper) (o:Oper) (v:Value) (a:Act) (w:World):Prop:=
 (Region.wanted o (yielded ops a.tmps)=true/\ ∀u,Kept w.heap.size w u->(execOp a.eval o).run tP u= .ok (.value v) u)\/(Region.wanted o (yielded ops a.tmps)=false/\v=ud)
theorem YG.kept {o:Oper} {v:Value} {a:Act} {w w':World} (h:YG ops o v a w) (hk:Kept w.heap.size w w'):YG ops o v a w':=by
 rcases h with ⟨h1,h2⟩ |h
 ·exact .inl ⟨h1,fun u hu=>h2 u (acD hk hu)⟩
 ·exact .inr h
def acv (K:Value->World->Prop) (w:World) (m:Sem Next):Prop:=
 (∃v,(∀τ,m.run tP (w.tp τ 0 noJ)= .ok (.value v) (w.tp τ 0 noJ))/\K v w)\/
 (∃S:Value->World->Prop,(∀τ,∃v w',m.run tP (w.tp τ 0 noJ)= .ok (.value v) w'/\S v w')/\ ∀v w',S v w'->Kept w.heap.size w w'/\K v w')\/
 (∃g args R1,(∀u,m.run tP u= .ok (.enter g args) u)/\iK tP g args w R1/\ ∀v w',R1 v w'->Kept w.heap.size w w'/\K v w')
theorem acv.mono {w:World} {m:Sem Next} {K K':Value->World->Prop} (h: ∀v w',Kept w.heap.size w w'->K v w'->K' v w') (hh:acv K w m):acv K' w m:=by
 rcases hh with ⟨v,h1,h2⟩ |⟨S,h1,h2⟩ |⟨g,args,R1,h1,h2,h3⟩
 ·exact .inl ⟨v,h1,h v w (Kept.refl _ _) h2⟩
 ·exact .inr (.inl ⟨S,h1,fun v w' hv=>⟨(h2 v w' hv).1,h _ _ (h2 v w' hv).1 (h2 v w' hv).2⟩⟩)
 ·exact .inr (.inr ⟨g,args,R1,h1,h2,fun v w' hv=>⟨(h3 v w' hv).1,h _ _ (h3 v w' hv).1 (h3 v w' hv).2⟩⟩)
def OpG (ops:Array Oper) (i:Nat) (K:Act->World->Prop) (a:Act) (w:World):Prop:=
 match ops[i]? with
 |none=>False
 |some o=>if Region.wanted o (yielded ops a.tmps) then acv (fun v w'=>K (a.put o.dst v) w') w (execOp a.eval o) else K (a.put o.dst ud) w
theorem OpG.mono {i:Nat} {a:Act} {w:World} {K K':Act->World->Prop} (h: ∀a w,K a w->K' a w) (hh:OpG ops i K a w):OpG ops i K' a w:=by
 unfold OpG at *
 split
 ·simp_all
 ·rename_i o ho;simp only[ho] at hh
  split
  ·rename_i hw;simp only[hw,if_true] at hh;exact hh.mono fun _ _ _=>h _ _
  ·rename_i hw;simp only[hw] at hh;exact h _ _ hh
theorem acE {i:Nat} {rest:List Nat} {a:Act} {w:World} (h:OpG ops i (fun a' w'=>GL tP f (.inRegion ops rest::kk) R a' w') a w):GL tP f (.inRegion ops (i::rest)::kk) R a w:=by
 unfold OpG at h
 split at h
 ·exact h.elim
 ·rename_i o ho
  split at h
  ·rename_i hw
   rcases h with ⟨v,h1,h2⟩ |⟨S,h1,h2⟩ |⟨g,args,R1,h1,h2,h3⟩
   ·refine LQ good (fun v' u=>v'=v/\ ∃τ,u=w.tp τ 0 noJ) ho hw (fun τ=>⟨v,_,h1 τ,rfl,τ,rfl⟩) fun v' u ⟨e,τ,e2⟩=> ?_;subst e e2;exact qL (τ:=w.tape) (d:=w.drawn) (by rw[dS,dh];exact h2)
   ·exact LQ good S ho hw h1 fun v w' hv=>(h2 v w' hv).2
   ·exact qM good ho hw h1 h2 fun v w' hv=>(h3 v w' hv).2
  ·rename_i hw;exact Bf good ho (by simpa using hw) h
theorem YG.opG {i:Nat} {o:Oper} {v:Value} {a:Act} {w:World} {K:Act->World->Prop} (hi:ops[i]? =some o) (hy:YG ops o v a w) (hK:K (a.put o.dst v) w):OpG ops i K a w:=by
 unfold OpG;simp only[hi]
 rcases hy with ⟨hw,hv⟩ |⟨hw,rfl⟩
 ·simp only[hw,if_true];exact .inl ⟨v,fun τ=>hv _ jD,hK⟩
 ·simp only[hw,Bool.false_eq_true,if_false];exact hK
theorem acF {j:Nat} {oi oj:Oper} {v:Value} (hj:ops[j]? =some oj) (hap:oi.apart ops oj=true) (hsi: ∀cs b,oi.op≠ .select cs b) (hsj: ∀cs b,oj.op≠ .select cs b) {K:Act->World->Prop} {a:Act} {w:World}
  (hy:YG ops oi v a w) (h:OpG ops j K (a.put oi.dst v) w):OpG ops j (fun a' w'=>YG ops oi v a' w'/\K (a'.put oi.dst v) w') a w:=by
 obtain⟨h1,h2,h3⟩:=Oper.apart_spec hap;have keep: ∀(u:Value) (w':World),Kept w.heap.size w w'->YG ops oi v (a.put oj.dst u) w':=fun u w' hk=>by
  refine YG.kept (w:=w) ?_ hk;unfold YG at hy ⊢;rw[wanted_put oi a oj.dst u h3,execOp_put oi hsi a oj.dst u h3];exact hy
 unfold OpG at *;simp only[hj] at *;rw[wanted_put oj a oi.dst v h1] at h
 split
 ·rename_i hw;simp only[hw,if_true] at h;rw[execOp_put oj hsj a oi.dst v h1] at h;refine h.mono fun u w' hk hh=>⟨keep u w' hk, ?_⟩;rw[<-Act.put_comm a v u h2];exact hh
 ·rename_i hw;simp only[hw] at h;refine⟨keep _ _ (Kept.refl _ _), ?_⟩;rw[<-Act.put_comm a v ud h2];exact h
def GA (f:FuncId) (ops:Array Oper) (kk:List Item) (R:Value->World->Prop):Nat->Array Bool->Act->World->Prop
 | 0,listed,a,w=>Region.ready .any ops listed= []/\GL tP f kk R a w
 |n+1,listed,a,w=>(Region.ready .any ops listed= []->GL tP f kk R a w)/\ ∀i∈Region.ready .any ops listed,OpG ops i (GA f ops kk R n (listed.setIfInBounds i true)) a w
theorem acw: ∀(n t:Nat) (listed:Array Bool) (a:Act) (w:World),GA f ops kk R n listed a w->GL tP f (.inRegion ops (Region.linearise.go .any ops n t listed [])::kk) R a w
 | 0,t,listed,a,w,h=>by
  simp only[Region.linearise.go,List.reverse_nil];exact lY good h.2
 |n+1,t,listed,a,w,h=>by
  obtain⟨h0,h1⟩:=h;simp only[Region.linearise.go]
  change GL tP f (.inRegion ops (match (Region.ready .any ops listed)[t % (Region.ready .any ops listed).length]? with
   |some i=>Region.linearise.go .any ops n (t / (Region.ready .any ops listed).length) (listed.setIfInBounds i true) [i]
   |none=> [].reverse)::kk) R a w
  cases hi:(Region.ready .any ops listed)[t % (Region.ready .any ops listed).length]? with
  |none=>
   have hnil:Region.ready .any ops listed= []:=by
    cases hr:Region.ready .any ops listed with
    |nil=>rfl
    |cons x xs=>
     rw[hr] at hi;have hlt:t % (x::xs).length<(x::xs).length:=Nat.mod_lt _ (by simp);simp at hi;simp at hlt;omega
   exact lY good (h0 hnil)
  |some i=>
   simp only[];rw[linearise_go_acc,List.reverse_singleton,List.singleton_append];exact acE ((h1 i (List.mem_of_getElem? hi)).mono fun a' w' x=>acw n _ _ a' w' x)
theorem acG {i:Nat} {oi:Oper} {v:Value} (hi:ops[i]? =some oi) (hsel: ∀(j:Nat) (o:Oper) cs b,ops[j]? =some o->o.op≠ .select cs b):
    ∀(n:Nat) (listed:Array Bool) (a:Act) (w:World),
      (∀j oj,ops[j]? =some oj->j≠i->listed.getD j true=false->(∀e∈oj.after,Region.binds .any e=true->e.on≠i)->oi.apart ops oj=true)->
      i∈Region.ready .any ops listed->YG ops oi v a w->GA f ops kk R n (listed.setIfInBounds i true) (a.put oi.dst v) w->GA f ops kk R (n+1) listed a w:=by
  intro n
  induction n with
  |zero=>
    intro listed a w _ hr hy H;refine⟨fun h=>(by rw[h] at hr;cases hr),fun j hj=> ?_⟩;by_cases hji:j=i
    · subst hji;exact hy.opG hi H
    · have:=ready_mono hj hji
      rw[H.1] at this
      cases this
  |succ n ih=>
    intro listed a w hfree hr hy H;refine⟨fun h=>(by rw[h] at hr;cases hr),fun j hj=> ?_⟩;by_cases hji:j=i
    · subst hji;exact hy.opG hi H
    · have h1:=H.2 j (ready_mono hj hji)
      obtain⟨hjun,oj,hoj,hall⟩:=mem_ready.1 hj;have hnot: ∀e∈oj.after,Region.binds .any e=true->e.on≠i:=fun e he hb heq=>by
        have h1:=hall e he hb;have h0:=(mem_ready.1 hr).1;rw[heq] at h1
        rcases Nat.lt_or_ge i listed.size with h' |h'
        · simp[h'] at h0 h1;rw[h0] at h1;cases h1
        · simp[Array.getElem?_eq_none h'] at h1
      have h2:=acF hoj (hfree j oj hoj hji hjun hnot) (fun cs b=>hsel i oi cs b hi) (fun cs b=>hsel j oj cs b hoj) hy h1;have hfree': ∀k ok,ops[k]? =some ok->k≠i->(listed.setIfInBounds j true).getD k true=false->
          (∀e∈ok.after,Region.binds .any e=true->e.on≠i)->oi.apart ops ok=true:=fun k ok hk hki hun hno=>by
        refine hfree k ok hk hki ?_ hno;by_cases hjk:j=k
        · subst hjk;exact hjun
        · rw[getD_set_ne true hjk] at hun;exact hun
      refine h2.mono fun a' w' h3=>ih (listed.setIfInBounds j true) a' w' hfree' (ready_mono hr (Ne.symm hji)) h3.1 ?_;rw[Array.setIfInBounds_comm _ _ hji];exact h3.2
theorem ac3 (m:Nat) {id:Nat} {a:Act} {w:World} (h:GA f ops kk R m (Array.replicate m false) a w) (hm:ops.size=m:=by rfl):GL tP f (.code (.region id ops true)::kk) R a w:=by
 subst hm;refine Eo good (fun it b u=> ∃t,it= .inRegion ops (Region.linearise .any ops t)::kk/\b=a/\ ∃τ d,u=w.tp τ d noJ) (fun τ=>⟨.inRegion ops (Region.linearise .any ops ((w.tp τ 0 noJ).tape (w.tp τ 0 noJ).drawn (.order (aN f).fn id)))::kk,a,w.tp τ 1 noJ,⟨_,rfl,rfl,τ,1,rfl⟩,fun cc=> .one ?_⟩) ?_
 ·have:=step_region_draw (P:=tP) (b:=aN f) (a:=a) (k:=kk) (cs:=cc) (w:=w.tp τ 0 noJ) (ops:=ops) (id:=id);rw[this];simp only[Region.schedule,show tP.follows .mixedOrders=true by kernel_rfl,Bool.true_or,if_true];rfl
 ·rintro it b u ⟨t,rfl,rfl,τ,d,rfl⟩;exact qL (τ:=w.tape) (d:=w.drawn) (by rw[dS,dh];exact acw _ _ _ _ _ h)
end
section
variable {f:FuncId} {N n d s t:Nat} {a:Act} {w:World} {l:List (Nat×Value)} {ops:Array Oper} {listed:Array Bool} {i:Nat} {kk:List Item} {R:Value->World->Prop} {o:Oper}
theorem acy {v:Value} (ho:ops[i]? =some o) (hsel:Region.noSelect ops=true) (hf:Region.free .any ops listed i=true) (hc:(Region.ready .any ops listed).contains i=true) (hy:YG ops o v a w) (h:GA f ops kk R n (listed.setIfInBounds i true) (a.put o.dst v) w):GA f ops kk R (n+1) listed a w:=
 acG ho (Region.noSelect_spec hsel) n listed a w (Region.free_spec ho hf) (by simpa using hc) hy h
theorem acr {v:Value} (hS:Sl a N l) (ho:ops[i]? =some o) (hw:Region.wanted o (yielded ops a.tmps)=true) (hdst:o.dst=some d) (hd:d<N) (hn:(l.map (·.1)).contains d=false) (hsel:Region.noSelect ops=true) (hf:Region.free .any ops listed i=true) (hc:(Region.ready .any ops listed).contains i=true)
  (hr: ∀u,Kept w.heap.size w u->(execOp a.eval o).run tP u= .ok (.value v) u) (h: ∀a',Sl a' N ((d,v)::l)->GA f ops kk R n (listed.setIfInBounds i true) a' w):GA f ops kk R (n+1) listed a w:=
 acy ho hsel hf hc (.inl ⟨hw,hr⟩) (h _ (by have:=hS.put hd hn (v:=v);rw[<-hdst] at this;exact this))
theorem acH (hr:Region.ready .any ops listed= [i]) (h:OpG ops i (GA f ops kk R n (listed.setIfInBounds i true)) a w):GA f ops kk R (n+1) listed a w:=
 ⟨fun h0=>(by rw[hr] at h0;cases h0),fun j hj=>by rw[hr,List.mem_singleton] at hj;subst hj;exact h⟩
theorem ac4 (i:Nat) {g:FuncId} {args:Array Value} {R1:Value->World->Prop} (hcall:iK tP g args w fun v w'=>R1 v w'/\Kept w.heap.size w w') (hS:Sl a N l) (k: ∀a' v w',R1 v w'/\Kept w.heap.size w w'->Sl a' N ((d,v)::l)->GA f ops kk R n (listed.setIfInBounds i true) a' w')
  (ho:ops[i]? =some o:=by rfl) (hw:Region.wanted o (yielded ops a.tmps)=true:=by rfl) (hdst:o.dst=some d:=by rfl) (hd:d<N:=by decide) (hn:(l.map (·.1)).contains d=false:=by rfl) (hc:Region.ready .any ops listed= [i]:=by kernel_rfl)
  (hr: ∀u,(execOp a.eval o).run tP u= .ok (.enter g args) u:=by intro u;have h:=(‹Sl _ _ _›).2.2;simp only[SlA] at h;simp[go_sem,h]):GA f ops kk R (n+1) listed a w:=by
 refine acH hc ?_;unfold OpG;simp only[ho,hw,if_true];refine .inr (.inr ⟨g,args,_,hr,hcall,fun v w' hv=>⟨hv.2,k _ v w' hv ?_⟩⟩);have:=hS.put hd hn (v:=v);rw[<-hdst] at this;exact this
theorem ac5 (h:GL tP f kk R a w) (hr:Region.ready .any ops listed= []:=by kernel_rfl):GA f ops kk R 0 listed a w:=⟨hr,h⟩
theorem ac7 (i:Nat) (v:Value) (hS:Sl a N l) (h: ∀a',Sl a' N ((d,v)::l)->GA f ops kk R n (listed.setIfInBounds i true) a' w)
  (ho:ops[i]? =some o:=by rfl) (hw:Region.wanted o (yielded ops a.tmps)=true:=by rfl) (hdst:o.dst=some d:=by rfl) (hd:d<N:=by decide) (hn:(l.map (·.1)).contains d=false:=by rfl) (hsel:Region.noSelect ops=true:=by kernel_rfl) (hf:Region.free .any ops listed i=true:=by kernel_rfl) (hc:(Region.ready .any ops listed).contains i=true:=by kernel_rfl)
  (hr: ∀u,(execOp a.eval o).run tP u= .ok (.value v) u:=by intro u;have h:=(‹Sl _ _ _›).2.2;simp only[SlA] at h;simp[go_sem,h]):
  GA f ops kk R (n+1) listed a w:=acr hS ho hw hdst hd hn hsel hf hc (fun u _=>hr u) h
theorem ac8 (i:Nat) {b1:Nat} {V:BkV} {B:Bk} (hS:Sl a N l) (hB:dL w b1 V B) (h: ∀a',Sl a' N ((d,V.val B)::l)->GA f ops kk R n (listed.setIfInBounds i true) a' w)
  (ho:ops[i]? =some o:=by rfl) (hw:Region.wanted o (yielded ops a.tmps)=true:=by rfl) (hdst:o.dst=some d:=by rfl) (hd:d<N:=by decide) (hn:(l.map (·.1)).contains d=false:=by rfl) (hsel:Region.noSelect ops=true:=by kernel_rfl) (hf:Region.free .any ops listed i=true:=by kernel_rfl) (hc:(Region.ready .any ops listed).contains i=true:=by kernel_rfl) (hp:o.op= .load 26 (.tmp s):=by rfl) (hs:a.tmps[s]?.getD ud= .pointer (some ⟨b1,0,none⟩):=by have h:=(‹Sl _ _ _›).2.2;simp only[SlA] at h;simp only[h]):GA f ops kk R (n+1) listed a w:=acr hS ho hw hdst hd hn hsel hf hc (fun u hk=>by
   have⟨c0,c1,c2,c3,_,_,_⟩:=hB.kept hk;obtain⟨dd,oo,ty,po,af,gu⟩:=o;simp only at hp;subst hp;go_simp) h
theorem adb (i:Nat) {b1:Nat} {V:BkV} {B:Bk} (hS:Sl a N l) (hB:dL w b1 V B) (h: ∀a',Sl a' N ((d,.pointer (some ⟨b1,0,none⟩))::l)->GA f ops kk R n (listed.setIfInBounds i true) a' w)
  (ho:ops[i]? =some o:=by rfl) (hw:Region.wanted o (yielded ops a.tmps)=true:=by rfl) (hdst:o.dst=some d:=by rfl) (hd:d<N:=by decide) (hn:(l.map (·.1)).contains d=false:=by rfl) (hsel:Region.noSelect ops=true:=by kernel_rfl) (hf:Region.free .any ops listed i=true:=by kernel_rfl) (hc:(Region.ready .any ops listed).contains i=true:=by kernel_rfl) (hp:o.op= .fieldAddr 26 (.tmp s) 0:=by rfl) (hs:a.tmps[s]?.getD ud= .pointer (some ⟨b1,0,none⟩):=by have h:=(‹Sl _ _ _›).2.2;simp only[SlA] at h;simp only[h]):GA f ops kk R (n+1) listed a w:=acr hS ho hw hdst hd hn hsel hf hc (fun u hk=>by
   have c0:=(hB.kept hk).c0;obtain⟨dd,oo,ty,po,af,gu⟩:=o;simp only at hp;subst hp;go_simp) h
theorem ade (i:Nat) {b1:Nat} {V:BkV} {B:Bk} (hS:Sl a N l) (hB:dL w b1 V B) (h: ∀a',Sl a' N ((d,.pointer (some ⟨b1,1,none⟩))::l)->GA f ops kk R n (listed.setIfInBounds i true) a' w)
  (ho:ops[i]? =some o:=by rfl) (hw:Region.wanted o (yielded ops a.tmps)=true:=by rfl) (hdst:o.dst=some d:=by rfl) (hd:d<N:=by decide) (hn:(l.map (·.1)).contains d=false:=by rfl) (hsel:Region.noSelect ops=true:=by kernel_rfl) (hf:Region.free .any ops listed i=true:=by kernel_rfl) (hc:(Region.ready .any ops listed).contains i=true:=by kernel_rfl) (hp:o.op= .fieldAddr 26 (.tmp s) 1:=by rfl) (hs:a.tmps[s]?.getD ud= .pointer (some ⟨b1,0,none⟩):=by have h:=(‹Sl _ _ _›).2.2;simp only[SlA] at h;simp only[h]):GA f ops kk R (n+1) listed a w:=acr hS ho hw hdst hd hn hsel hf hc (fun u hk=>by
   have c0:=(hB.kept hk).c0;obtain⟨dd,oo,ty,po,af,gu⟩:=o;simp only at hp;subst hp;go_simp) h
theorem adf (i:Nat) {b1:Nat} {V:BkV} {B:Bk} (hS:Sl a N l) (hB:dL w b1 V B) (h: ∀a',Sl a' N ((d,.pointer (some ⟨b1,2,none⟩))::l)->GA f ops kk R n (listed.setIfInBounds i true) a' w)
  (ho:ops[i]? =some o:=by rfl) (hw:Region.wanted o (yielded ops a.tmps)=true:=by rfl) (hdst:o.dst=some d:=by rfl) (hd:d<N:=by decide) (hn:(l.map (·.1)).contains d=false:=by rfl) (hsel:Region.noSelect ops=true:=by kernel_rfl) (hf:Region.free .any ops listed i=true:=by kernel_rfl) (hc:(Region.ready .any ops listed).contains i=true:=by kernel_rfl) (hp:o.op= .fieldAddr 26 (.tmp s) 2:=by rfl) (hs:a.tmps[s]?.getD ud= .pointer (some ⟨b1,0,none⟩):=by have h:=(‹Sl _ _ _›).2.2;simp only[SlA] at h;simp only[h]):GA f ops kk R (n+1) listed a w:=acr hS ho hw hdst hd hn hsel hf hc (fun u hk=>by
   have c0:=(hB.kept hk).c0;obtain⟨dd,oo,ty,po,af,gu⟩:=o;simp only at hp;subst hp;go_simp) h
theorem adh (i:Nat) {b1:Nat} {V:BkV} {B:Bk} (hS:Sl a N l) (hB:dL w b1 V B) (h: ∀a',Sl a' N ((d,.int .i64 B.hours)::l)->GA f ops kk R n (listed.setIfInBounds i true) a' w)
  (ho:ops[i]? =some o:=by rfl) (hw:Region.wanted o (yielded ops a.tmps)=true:=by rfl) (hdst:o.dst=some d:=by rfl) (hd:d<N:=by decide) (hn:(l.map (·.1)).contains d=false:=by rfl) (hsel:Region.noSelect ops=true:=by kernel_rfl) (hf:Region.free .any ops listed i=true:=by kernel_rfl) (hc:(Region.ready .any ops listed).contains i=true:=by kernel_rfl) (hp:o.op= .load 3 (.tmp s):=by rfl) (hs:a.tmps[s]?.getD ud= .pointer (some ⟨b1,0,none⟩):=by have h:=(‹Sl _ _ _›).2.2;simp only[SlA] at h;simp only[h]):GA f ops kk R (n+1) listed a w:=acr hS ho hw hdst hd hn hsel hf hc (fun u hk=>by
   have c0:=(hB.kept hk).c0;obtain⟨dd,oo,ty,po,af,gu⟩:=o;simp only at hp;subst hp;go_simp) h
theorem adi (i:Nat) {b1:Nat} {V:BkV} {B:Bk} (hS:Sl a N l) (hB:dL w b1 V B) (h: ∀a',Sl a' N ((d,.slice V.ta B.towns.length V.tc)::l)->GA f ops kk R n (listed.setIfInBounds i true) a' w)
  (ho:ops[i]? =some o:=by rfl) (hw:Region.wanted o (yielded ops a.tmps)=true:=by rfl) (hdst:o.dst=some d:=by rfl) (hd:d<N:=by decide) (hn:(l.map (·.1)).contains d=false:=by rfl) (hsel:Region.noSelect ops=true:=by kernel_rfl) (hf:Region.free .any ops listed i=true:=by kernel_rfl) (hc:(Region.ready .any ops listed).contains i=true:=by kernel_rfl) (hp:o.op= .load 22 (.tmp s):=by rfl) (hs:a.tmps[s]?.getD ud= .pointer (some ⟨b1,1,none⟩):=by have h:=(‹Sl _ _ _›).2.2;simp only[SlA] at h;simp only[h]):GA f ops kk R (n+1) listed a w:=acr hS ho hw hdst hd hn hsel hf hc (fun u hk=>by
   have c0:=(hB.kept hk).c1;obtain⟨dd,oo,ty,po,af,gu⟩:=o;simp only at hp;subst hp;go_simp) h
theorem adk (i:Nat) {b1:Nat} {V:BkV} {B:Bk} (hS:Sl a N l) (hB:dL w b1 V B) (h: ∀a',Sl a' N ((d,.slice V.la B.links.length V.lc)::l)->GA f ops kk R n (listed.setIfInBounds i true) a' w)
  (ho:ops[i]? =some o:=by rfl) (hw:Region.wanted o (yielded ops a.tmps)=true:=by rfl) (hdst:o.dst=some d:=by rfl) (hd:d<N:=by decide) (hn:(l.map (·.1)).contains d=false:=by rfl) (hsel:Region.noSelect ops=true:=by kernel_rfl) (hf:Region.free .any ops listed i=true:=by kernel_rfl) (hc:(Region.ready .any ops listed).contains i=true:=by kernel_rfl) (hp:o.op= .load 23 (.tmp s):=by rfl) (hs:a.tmps[s]?.getD ud= .pointer (some ⟨b1,2,none⟩):=by have h:=(‹Sl _ _ _›).2.2;simp only[SlA] at h;simp only[h]):GA f ops kk R (n+1) listed a w:=acr hS ho hw hdst hd hn hsel hf hc (fun u hk=>by
   have c0:=(hB.kept hk).c2;obtain⟨dd,oo,ty,po,af,gu⟩:=o;simp only at hp;subst hp;go_simp) h
theorem adn (i:Nat) {q:Int} (hS:Sl a N l) (hq:0<=q/\q<=255) (h: ∀a',Sl a' N ((d,.int .i64 q)::l)->GA f ops kk R n (listed.setIfInBounds i true) a' w)
  (ho:ops[i]? =some o:=by rfl) (hw:Region.wanted o (yielded ops a.tmps)=true:=by rfl) (hdst:o.dst=some d:=by rfl) (hd:d<N:=by decide) (hn:(l.map (·.1)).contains d=false:=by rfl) (hsel:Region.noSelect ops=true:=by kernel_rfl) (hf:Region.free .any ops listed i=true:=by kernel_rfl) (hc:(Region.ready .any ops listed).contains i=true:=by kernel_rfl) (hp:o.op= .convert 5 3 (.tmp s):=by rfl) (hs:a.tmps[s]?.getD ud= .int .u8 q:=by have h:=(‹Sl _ _ _›).2.2;simp only[SlA] at h;simp only[h]):GA f ops kk R (n+1) listed a w:=acr hS ho hw hdst hd hn hsel hf hc (fun u hk=>by
   have hwq:IntKind.wrap .i64 q=q:=IntWalk.i64_in _ (by omega);obtain⟨dd,oo,ty,po,af,gu⟩:=o;simp only at hp;subst hp;go_simp) h
theorem ado (i:Nat) {q:Int} {m k:Nat} (hS:Sl a N l) (hq:0<=q/\q<=65535) (hn1:1<=m) (hk0:(k:Int)=q % (m:Int)) (h: ∀a',Sl a' N ((d,.int .i64 (k:Int))::l)->GA f ops kk R n (listed.setIfInBounds i true) a' w)
  (ho:ops[i]? =some o:=by rfl) (hw:Region.wanted o (yielded ops a.tmps)=true:=by rfl) (hdst:o.dst=some d:=by rfl) (hd:d<N:=by decide) (hn:(l.map (·.1)).contains d=false:=by rfl) (hsel:Region.noSelect ops=true:=by kernel_rfl) (hf:Region.free .any ops listed i=true:=by kernel_rfl) (hc:(Region.ready .any ops listed).contains i=true:=by kernel_rfl) (hp:o.op= .binOp .rem 3 (.tmp s) (.tmp t) 3:=by rfl) (hs:a.tmps[s]?.getD ud= .int .i64 q:=by have h:=(‹Sl _ _ _›).2.2;simp only[SlA] at h;simp only[h]) (ht:a.tmps[t]?.getD ud= .int .i64 (m:Int):=by have h:=(‹Sl _ _ _›).2.2;simp only[SlA] at h;simp only[h]):GA f ops kk R (n+1) listed a w:=acr hS ho hw hdst hd hn hsel hf hc (fun u hk=>by
   have h1:((q.toNat % m:Nat):Int)=(k:Int):=by rw[Int.natCast_emod,Int.toNat_of_nonneg hq.1,hk0]
   have h2:=Nat.mod_le q.toNat m;have hkn:(k:Int)<=65535:=by omega
   have hrem:Int.tmod q (m:Int)=(k:Int):=by rw[hk0];exact Int.tmod_eq_emod_of_nonneg hq.1
   have hn0: ¬m=0:=by omega
   have hnz:((m:Int)==0)=false:=by rw[beq_eq_false_iff_ne];omega
   have hwk:IntKind.wrap .i64 (k:Int)=(k:Int):=IntWalk.i64_in _ (by omega);obtain⟨dd,oo,ty,po,af,gu⟩:=o;simp only at hp;subst hp;go_simp) h
end
theorem bI.kept {w w':World} {n:Nat} {V:BkV} {B:Bk} {O:qZ} (h:bI w n V B O) (hk:Kept w.heap.size w w'):bI w' n V B O:=by
 have c: ∀{b o:Nat} {v:Value},w.cell? ⟨b,o,none⟩=some v->w'.cell? ⟨b,o,none⟩=some v:=fun h=>dV hk (nR _) h;have hrp:bG w' V.pa:=fun a e=>by
  obtain⟨x,t,z,h0⟩:=h.rp a e;exact⟨x,t,z,(hk.block _ (Array.getElem?_eq_some_iff.1 h0).1).trans h0⟩
 refine⟨h.ta,h.la,h.pa,h.pc,hrp,h.tc,fun i t ht=>c (h.towns i t ht),fun i L hL=> ?_,fun i L k s hL hs=> ?_,fun i p hp=> ?_,fun i p k x hp hx=> ?_,fun i p hp=> ?_,h.dis,h.lo⟩
 ·obtain⟨h0,h1,sc,h2⟩:=h.links i L hL;exact⟨c h0,c h1,sc,c h2⟩
 ·exact⟨c (h.steps i L k s hL hs).1,c (h.steps i L k s hL hs).2⟩
 ·obtain⟨h0,h1,sc,h2⟩:=h.pairs i p hp;exact⟨c h0,c h1,sc,c h2⟩
 ·exact⟨c (h.calls i p k x hp hx).1,c (h.calls i p k x hp hx).2⟩
 ·have:=h.free i p hp;exact⟨⟨nL this.1.1 hk.size,this.1.2⟩,fun j=>by rw[hk.frozen (p:=⟨_,j,none⟩) this.1.1];exact this.2 j⟩
structure afY (w:World) (b:Nat) (V:BkV) (B:Bk):Prop where
 c0:w.cell? ⟨b,0,none⟩=some (.int .i64 B.hours)
 c1:w.cell? ⟨b,1,none⟩=some (.slice V.ta B.towns.length V.tc)
 c2:w.cell? ⟨b,2,none⟩=some (.slice V.la B.links.length V.lc)
 c3:w.cell? ⟨b,3,none⟩=some (.slice V.pa B.pairs.length V.pc)
 lt:b<w.heap.size
 fr: ∀j,w.frozen? ⟨b,j,none⟩=false
theorem afY.kept {w w':World} {b:Nat} {V:BkV} {B:Bk} (h:afY w b V B) (hk:Kept w.heap.size w w'):afY w' b V B:=
 ⟨dV hk (nR _) h.c0,dV hk (nR _) h.c1,dV hk (nR _) h.c2,dV hk (nR _) h.c3,nL h.lt hk.size,fun j=>by rw[hk.frozen (p:=⟨b,j,none⟩) h.lt];exact h.fr j⟩
section
variable {f:FuncId} {N d s t:Nat} {a:Act} {w:World} {l:List (Nat×Value)} {ops:Array Oper} {i j:Nat} {rest:List Nat} {kk:List Item} {R:Value->World->Prop} {o o2:Oper}
theorem agB (w:World) (τ:Nat->Question->Nat) (d:Nat) (x:Obj):(w.tp τ d noJ).alloc x=(w.alloc x).tp τ d noJ:=by
 unfold World.tp World.alloc;rw[vO,vO]
def afS (w:World) (b:Nat) (V:BkV) (B:Bk):World:=(((w.setCell ⟨b,0,none⟩ (.int .i64 B.hours)).setCell ⟨b,1,none⟩ (.slice V.ta B.towns.length V.tc)).setCell ⟨b,2,none⟩ (.slice V.la B.links.length V.lc)).setCell ⟨b,3,none⟩ (.slice V.pa B.pairs.length V.pc)
theorem agi (w:World) (τ:Nat->Question->Nat) (d:Nat) (b:Nat) (V:BkV) (B:Bk):afS (w.tp τ d noJ) b V B=(afS w b V B).tp τ d noJ:=by
 unfold afS;rw[Pz _ _ _ lF,Pz _ _ _ lF,Pz _ _ _ lF,Pz _ _ _ lF]
structure afU (w:World) (b:Nat):Prop where
 c:(∃v,w.cell? ⟨b,0,none⟩=some v)/\(∃v,w.cell? ⟨b,1,none⟩=some v)/\(∃v,w.cell? ⟨b,2,none⟩=some v)/\ ∃v,w.cell? ⟨b,3,none⟩=some v
 lt:b<w.heap.size
 fr: ∀j,w.frozen? ⟨b,j,none⟩=false
theorem af8 {w:World} {b:Nat} (h:afU w b) (V:BkV) (B:Bk):afY (afS w b V B) b V B:=by
 obtain⟨⟨⟨v0,c0⟩,⟨v1,c1⟩,⟨v2,c2⟩,⟨v3,c3⟩⟩,hl,hf⟩:=h;have f0:=hf 0;have f1:=hf 1;have f2:=hf 2;have f3:=hf 3;unfold afS;refine⟨by go_simp,by go_simp,by go_simp,by go_simp,by simpa using hl,fun j=> ?_⟩;rw[World.frozen?_setCell,World.frozen?_setCell,World.frozen?_setCell,World.frozen?_setCell];exact hf j
theorem af9 {n:Nat} {w w':World} {b:Nat} (h:Kept n w w') (hb:n<=b) (V:BkV) (B:Bk):Kept n w (afS w' b V B):=
 ach (ach (ach (ach h (p:=⟨b,0,none⟩) hb _) (p:=⟨b,1,none⟩) hb _) (p:=⟨b,2,none⟩) hb _) (p:=⟨b,3,none⟩) hb _
theorem agj {w:World} {b:Nat} (h:afU w b) (τ:Nat->Question->Nat) (d:Nat):afU (w.tp τ d noJ) b:=by
 obtain⟨c,hl,hf⟩:=h;exact⟨by simpa only[bV] using c,by rw[jO];exact hl,fun j=>by rw[(jD (w:=w) (τ:=τ) (d:=d)).frozen (p:=⟨b,j,none⟩) hl];exact hf j⟩
theorem agk {o:Oper} {p q b:Nat} {V:BkV} {B:Bk} {x:World} (hp2:o.op= .store 26 (.tmp p) (.tmp q)) (hd:a.tmps[p]?.getD ud= .pointer (some ⟨b,0,none⟩)) (hs:a.tmps[q]?.getD ud=V.val B) (h:afU x b):(execOp a.eval o).run tP x= .ok .skip (afS x b V B):=by
 obtain⟨⟨⟨v0,c0⟩,⟨v1,c1⟩,⟨v2,c2⟩,⟨v3,c3⟩⟩,hl,hf⟩:=h;have f0:=hf 0;have f1:=hf 1;have f2:=hf 2;have f3:=hf 3;obtain⟨dd,oo,ty,po,af,gu⟩:=o;simp only at hp2;subst hp2;unfold BkV.val at hs;unfold afS;go_simp
theorem ag3 (S:World->Prop) (ho:ops[i]? =some o) (hw:Region.wanted o (yielded ops a.tmps)=true) (hr: ∀τ,∃w',(execOp a.eval o).run tP (w.tp τ 0 noJ)= .ok .skip w'/\S w')
  (h: ∀w',S w'->GL tP f (.inRegion ops rest::kk) R (a.put o.dst ud) w'):GL tP f (.inRegion ops (i::rest)::kk) R a w:=by
 refine Eo good (fun it b u=>it= .inRegion ops rest::kk/\b=a.put o.dst ud/\S u) (fun τ=> ?_) fun it b u ⟨e1,e2,hs⟩=>by subst e1 e2;exact h u hs
 obtain⟨w',hr',hs⟩:=hr τ;refine⟨_,_,w',⟨rfl,rfl,hs⟩,fun cc=> .one (step_lone_go ?_)⟩
 change (stepG tP true (G ((aN f).at a (.inRegion ops (i::rest)::kk)) cc) (w.tp τ 0 noJ)).bare=_
 rw[stepG_none ho hw (by intro e;cases e) hr'];rfl
theorem aga {it:List Item} {τ:Nat->Question->Nat} {d:Nat} (h:GL tP f it R a w):GL tP f it R a (w.tp τ d noJ):=
 qL (τ:=w.tape) (d:=w.drawn) (by rw[dS,dh];exact h)
theorem agb {V:BkV} {B:Bk} (hS:Sl a N l) (h: ∀a' b w',w.heap.size<=b->Kept w.heap.size w w'->afY w' b V B->Sl a' N ((d,.pointer (some ⟨b,0,none⟩))::l)->GL tP f (.inRegion ops rest::kk) R a' w') (hs:a.tmps[s]?.getD ud=V.val B)
  (ho:ops[i]? =some o:=by rfl) (ho2:ops[j]? =some o2:=by rfl) (hg:o.guard=none:=by rfl) (hg2:o2.guard=none:=by rfl) (hdst:o.dst=some d:=by rfl) (hdst2:o2.dst=none:=by rfl) (hd:d<N:=by decide) (hn:(l.map (·.1)).contains d=false:=by rfl) (hp:o.op= .alloc 26:=by rfl) (hp2:o2.op= .store 26 (.tmp d) (.tmp s):=by rfl) (hne:s≠d:=by decide):
  GL tP f (.inRegion ops (i::j::rest)::kk) R a w:=by
 have P:=kP a (d:=d) (.pointer (some ⟨w.heap.size,0,none⟩)) (by rw[hS.1];exact hd);refine LQ good (fun v u=>v= .pointer (some ⟨w.heap.size,0,none⟩)/\ ∃τ,u=(w.alloc (.cells #[.int .i64 0,.slice none 0 0,.slice none 0 0,.slice none 0 0] 26)).tp τ 0 noJ) ho (by unfold Region.wanted;rw[hg]) (fun τ=>⟨.pointer (some ⟨w.heap.size,0,none⟩),(w.tp τ 0 noJ).alloc (.cells #[.int .i64 0,.slice none 0 0,.slice none 0 0,.slice none 0 0] 26), ?_,rfl,τ,agB _ _ _ _⟩) ?_
 ·have hz:(w.tp τ 0 noJ).heap.size=w.heap.size:=jO;obtain⟨dd,oo,ty,po,af,gu⟩:=o;simp only at hp;subst hp;rw[<-hz];generalize w.tp τ 0 noJ=w1;go_simp
 rintro v u ⟨rfl,τ,rfl⟩;refine aga ?_;rw[hdst];have hS2:=hS.put hd hn (v:= .pointer (some ⟨w.heap.size,0,none⟩));have hs2:(a.put (some d) (.pointer (some ⟨w.heap.size,0,none⟩))).tmps[s]?.getD ud=V.val B:=(P.other s hne).trans hs;have hd2:(a.put (some d) (.pointer (some ⟨w.heap.size,0,none⟩))).tmps[d]?.getD ud= .pointer (some ⟨w.heap.size,0,none⟩):=P.same;have hx:afU (w.alloc (.cells #[.int .i64 0,.slice none 0 0,.slice none 0 0,.slice none 0 0] 26)) w.heap.size:=⟨⟨⟨_,by go_simp;rfl⟩,⟨_,by go_simp;rfl⟩,⟨_,by go_simp;rfl⟩,⟨_,by go_simp;rfl⟩⟩,by simp,fun j=>by go_simp⟩;have hk:Kept w.heap.size w (w.alloc (.cells #[.int .i64 0,.slice none 0 0,.slice none 0 0,.slice none 0 0] 26)):=Kept.of_below ((Below.refl _ _).alloc (nR _) _);generalize a.put (some d) (.pointer (some ⟨w.heap.size,0,none⟩))=a2 at *;generalize w.alloc (.cells #[.int .i64 0,.slice none 0 0,.slice none 0 0,.slice none 0 0] 26)=W at *;refine ag3 (fun u=> ∃τ,u=(afS W w.heap.size V B).tp τ 0 noJ) ho2 (by unfold Region.wanted;rw[hg2]) (fun τ=>⟨_,agk hp2 hd2 hs2 (agj hx τ 0),τ,agi _ _ _ _ _ _⟩) ?_;rintro u ⟨τ,rfl⟩;refine aga ?_;rw[hdst2];exact h a2 w.heap.size _ (nR _) (af9 hk (nR _) V B) (af8 hx V B) hS2
end
section
variable {u:World} {b1:Nat} {V:BkV} {B:Bk} {xs:List Int} {xa:Option Addr} {xc n:Nat} {p:Int}
theorem agQ (hn:B.links.length=n) (hB:dL u b1 V B) (hx:SlI u xa xs) (hl:xs.length=n) (hL:n<=1000000) (hr:aH B xs true=0):iK tP 21 #[V.val B,.slice xa n xc] u fun v w'=>v= .tuple #[.int .i64 (aQ B (trk xs) B.hours.toNat 0 1),.int .i64 0]/\Kept u.heap.size u w':=by
 subst hn;exact acN hB hx hl hL hr
end
theorem afa {B:Bk} (hA:B.alarm=0) {h:Nat} (hh:(h:Int)<B.hours) {xs:List Int} (hr:aH B xs true=0):aH B xs (bP B (h:Int))=0:=by
 have hb:=(gY hA).fine.hours;have:bP B (h:Int)=true:=by
  unfold bP;rw[show RowKit.wrap64 (B.hours-1)=B.hours-1 from IntWalk.wrap64_in _ (by omega)];simp[btw];omega
 rw[this];exact hr
section
variable {u:World} {b1:Nat} {V:BkV} {B:Bk} {xs cs:List Int} {xa ca:Option Addr} {xc cc:Nat}
theorem afd (h:Nat) (hB:dL u b1 V B) (hA:B.alarm=0) (hh:(h:Int)<B.hours) (hx:SlI u xa xs) (hl:xs.length=B.links.length) (hr:aH B xs true=0):
  iK tP 16 #[V.val B,.slice xa B.links.length xc,.int .i64 (h:Int)] u fun v w'=>(∃g gc,v= .tuple #[.slice (some ⟨g,0,none⟩) B.links.length gc,.int .i64 0]/\SlB w' (some ⟨g,0,none⟩) (jS B (trk xs) h B.links.length))/\Kept u.heap.size u w':=by
 have hll:=(gY hA).fine.links;exact acs (X:=fun v w'=> ∃g gc,v= .tuple #[.slice (some ⟨g,0,none⟩) B.links.length gc,.int .i64 0]/\SlB w' (some ⟨g,0,none⟩) (jS B (trk xs) h B.links.length)) (fun _ _ _ ⟨a,b,e,s⟩ k=>⟨a,b,e,s.kept k⟩) fun τ=>by
  have:=c16 V B xs xa xc (h:Int) (u.tp τ 0 noJ) (hB.kept jD).book (hB.kept jD).vars (hx.kept jD) (by omega);rw[hl] at this;refine this.mono fun _ _ ⟨h1,_,h3⟩=> ?_;obtain⟨g,gc,e1,hs,_⟩:=h1 (afa hA hh hr);exact⟨_,e1,⟨g,gc,rfl,by rwa [Int.toNat_natCast] at hs⟩,h3⟩
end
section
variable {f:FuncId} {N n d s t:Nat} {a:Act} {w:World} {l:List (Nat×Value)} {ops:Array Oper} {listed:Array Bool} {i:Nat} {rest:List Nat} {kk:List Item} {R:Value->World->Prop} {o:Oper}
theorem aft (i:Nat) {b L c k:Nat} (hS:Sl a N l) (hk0:k<L) (h: ∀a',Sl a' N ((d,.pointer (some ⟨b,k*2,none⟩))::l)->GA f ops kk R n (listed.setIfInBounds i true) a' w)
  (ho:ops[i]? =some o:=by rfl) (hw:Region.wanted o (yielded ops a.tmps)=true:=by rfl) (hdst:o.dst=some d:=by rfl) (hd:d<N:=by decide) (hn:(l.map (·.1)).contains d=false:=by rfl) (hsel:Region.noSelect ops=true:=by kernel_rfl) (hf:Region.free .any ops listed i=true:=by kernel_rfl) (hc:(Region.ready .any ops listed).contains i=true:=by kernel_rfl) (hp:o.op= .indexAddr 30 (.tmp s) (.tmp t):=by rfl) (hs:a.tmps[s]?.getD ud= .slice (some ⟨b,0,none⟩) L c:=by have h:=(‹Sl _ _ _›).2.2;simp only[SlA] at h;simp only[h]) (ht:a.tmps[t]?.getD ud= .int .i64 (k:Int):=by have h:=(‹Sl _ _ _›).2.2;simp only[SlA] at h;simp only[h]):GA f ops kk R (n+1) listed a w:=acr hS ho hw hdst hd hn hsel hf hc (fun u _=>by
   have hki:(k:Int)<(L:Int):=by omega
   obtain⟨dd,oo,ty,po,af,gu⟩:=o;simp only at hp;subst hp;go_simp) h
end
end Go.Proofs.YtaikibfkggglgaaDoor
namespace Go.Proofs.YtaikibfkggglgaaDoor
open Go.RowKit Go.Rent Go.Tp Go.Conc Go.Joins
theorem ai0 {w:World} {τ:Nat->Question->Nat} {d base s n:Nat} {e:TypeId} {v:Value} {xs:List Value}:(w.tp τ d noJ).ownsRow base e s v n xs↔w.ownsRow base e s v n xs:=by
 unfold World.ownsRow;simp only[oG]
section
variable {f:FuncId} {N d s t:Nat} {a:Act} {w:World} {l:List (Nat×Value)} {ops:Array Oper} {i:Nat} {rest:List Nat} {kk:List Item} {R:Value->World->Prop} {o:Oper}
end
theorem RwV.kept {w w':World} {l:List ahS} {vs:List (Int×Int×Value)} (h:RwV w l vs) (hk:Kept w.heap.size w w'):RwV w' l vs:=⟨h.len,fun i x hx=>by
 obtain⟨sa,sc,h1,h2,h3⟩:=h.get i x hx;exact⟨sa,sc,h1,h2.kept hk,h3⟩⟩
theorem afY.same {w w':World} {b:Nat} {V:BkV} {B:Bk} (h:afY w b V B) (hb:w'.heap[b]? =w.heap[b]?):afY w' b V B:=by
 have hc: ∀o,w'.cell? ⟨b,o,none⟩=w.cell? ⟨b,o,none⟩:=fun o=>by simp[World.cell?,hb]
 have hf: ∀o,w'.frozen? ⟨b,o,none⟩=w.frozen? ⟨b,o,none⟩:=fun o=>by simp[World.frozen?,hb]
 have c0:=(hc 0).trans h.c0;exact⟨c0,(hc 1).trans h.c1,(hc 2).trans h.c2,(hc 3).trans h.c3,wBk w' _ c0,fun j=>(hf j).trans (h.fr j)⟩
section
variable {u:World} {b1:Nat} {V:BkV} {B:Bk}
end
theorem ai8 {H:Type} {enc:TypeId×Value->H} {w:World} {base b0:Nat} {spare:Nat->Bool} {held:Bool} {r:Reach} {v:Value} {d:DataW H} {p:List MemPlace} {V:BkV} {B:Bk}
  (hv:Value.okWide tP w r b0 26 v) (h:DataW.Trod enc tP w base spare held 26 v d p) (e:v=V.val B):B.links.length<=V.lc/\V.lc<=maxLen:=by
 obtain⟨v0,v1,v2,v3,y0,y1,y2,y3,n,rfl,_,_,h0,h1,h2,h3⟩:=open_agg4 (P:=tP) Tryd.underlying26 (by kernel_rfl) (by kernel_rfl) hv h;obtain⟨la,ll,lc,e2,l1,l2,l3,l4⟩:=ML Tryd.underlying23 Tryd.underlying79 (by kernel_rfl) ⟨rfl,rfl,rfl⟩ ⟨by kernel_rfl,by kernel_rfl,by kernel_rfl⟩ Tryd.underlying3 Tryd.underlying3 (fun n cs x=>MJ Tryd.underlying77 Tryd.underlying137 (by kernel_rfl) rfl rfl (by kernel_rfl) (by kernel_rfl) Tryd.underlying3 Tryd.underlying3) h2;simp only[List.cons.injEq,and_true] at e2;subst e2;simp only[BkV.val,Value.agg.injEq,Array.mk.injEq,List.cons.injEq,Value.slice.injEq] at e;obtain⟨_,_,⟨_,e3,e4⟩,_⟩:=e;rw[<-e3,<-e4];exact⟨l1,l2⟩
end Go.Proofs.YtaikibfkggglgaaDoor
