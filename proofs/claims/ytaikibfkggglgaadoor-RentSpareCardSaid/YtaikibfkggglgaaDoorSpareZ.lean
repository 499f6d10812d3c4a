/- RentSpare holds, for every input; no conditions. -/
import Derived.Test.YtaikibfkggglgaaDoorW27
set_option maxRecDepth 100000
open Nat renaming le_refl→nR
open Go.Lib renaming hid→lH
open Go.Proofs.Tryd renaming prog→tP
open List renaming getElem?_eq_getElem→lG
open Go.World renaming block_lt_of_cell?→wBk
open List renaming getD_eq_getElem?_getD→lD
set_option maxHeartbeats 4000000
namespace Go.Proofs.YtaikibfkggglgaaDoor
open Go.RowKit Go.Rent Go.Tp Go.Conc
theorem FN (B:Bk) (a b:Int): ∀n i,0<=B.directFrom a b n i->B.one (B.directFrom a b n i).toNat=a/\B.two (B.directFrom a b n i).toNat=b
 | 0,i,h=>by unfold Bk.directFrom at h;omega
 |n+1,i,h=>by
  unfold Bk.directFrom at h ⊢;by_cases e:B.one i=a/\B.two i=b
  ·rw[if_pos e,Int.toNat_natCast];exact e
  ·rw[if_neg e] at h ⊢; exact FN B a b n (i+1) h
theorem FP {B:Bk} {a b:Int} (h:0<=B.direct a b):B.one (B.direct a b).toNat=a/\B.two (B.direct a b).toNat=b:=FN B a b _ _ h
theorem FQ {nt hours:Int}: ∀(l:List Pr) (S:List (Int×Int)),fP nt hours S l=0->(∀x∈l,bZ S x.one x.two=false)/\ ∀(i j:Nat) (x y:Pr),i<j->l[i]? =some x->l[j]? =some y-> ¬(x.one=y.one/\x.two=y.two)
 | [],S,_=>⟨fun x hx=>(by cases hx),fun i j x y _ h=>(by cases h)⟩
 |p::l,S,h=>by
  unfold fP at h
  split at h
  ·cases h
  split at h
  ·cases h
  split at h
  ·cases h
  rename_i hm
  split at h
  ·split at h
   ·cases h
   obtain⟨h1,h2⟩:=FQ l _ h;have hs: ∀x∈l,bZ S x.one x.two=false/\ ¬(p.one=x.one/\p.two=x.two):=fun x hx=>by
    have:=h1 x hx;rw[Ce,Bool.or_eq_false_iff] at this;refine⟨this.2,fun⟨e1,e2⟩=> ?_⟩;have h3:=this.1;rw[e1,e2] at h3;simp at h3
   refine⟨fun x hx=> ?_,fun i j x y hij hx hy=> ?_⟩
   ·rcases List.mem_cons.1 hx with e |e
    ·subst e;simpa using hm
    ·exact(hs x e).1
   ·cases j with
    |zero=>omega
    |succ j=>
     rw[List.getElem?_cons_succ] at hy
     cases i with
     |zero=>cases hx;exact(hs y (List.mem_of_getElem? hy)).2
     |succ i=>exact h2 i j x y (by omega) (by simpa using hx) hy
  ·cases h
theorem Ol {B:Bk} (h:B.alarm=0) {i j:Nat} (hij:i<j) (hj:j<B.pairs.length): ¬(B.pone i=B.pone j/\B.ptwo i=B.ptwo j):=by
 obtain⟨_,_,_,h3⟩:=GX h;unfold dR at h3
 split at h3
 ·cases h3
 have hx:B.pairs[i]? =some B.pairs[i]:=lG (by omega);have hy:B.pairs[j]? =some B.pairs[j]:=lG hj;have:=(FQ _ _ h3).2 i j _ _ hij hx hy;unfold Bk.pone Bk.ptwo;rw[hx,hy];exact this
theorem Om (B:Bk) (T:Nat->Int) (n a b:Int) (out:Nat->Int) {k:Nat} (h1:k≠(a-1).toNat) (h2:k≠(b-1).toNat):B.go T n a b out k=if a≠0/\B.direct a b=k then min n (T k) else out k:=by
 unfold Bk.go;by_cases ha:a=0
 ·rw[if_pos ha,if_neg (by omega)];exact dQ _ _ h2
 ·rw[if_neg ha];rw[dQ _ _ h2,dQ _ _ h1];by_cases hk:0<=B.direct a b
  ·simp only[if_pos hk];by_cases e:B.direct a b=k
   ·rw[if_pos ⟨ha,e⟩,e,Int.toNat_natCast];simp
   ·rw[if_neg (fun h=>e h.2)];exact dQ _ _ (by omega)
  ·simp only[if_neg hk];rw[if_neg (by omega)]
theorem FT {B:Bk} (hB:B.Fine) (hA:B.alarm=0) (T c:Nat->Int) {i k:Nat} (hi:i<B.pairs.length) (h0:B.pone i≠0) (hk:B.direct (B.pone i) (B.ptwo i)=k): ∀n,i<n->n<=B.pairs.length->B.loadTo T c n k=min (c i) (T k)
 | 0,h,_=>by omega
 |n+1,h,hn=>by
  have hd:=pF B hB (B.pone i) (B.ptwo i);have he:=hB.ends n (by omega);have ht:B.spokes=B.towns.length-1:=rfl;unfold Bk.loadTo;rw[Om B T _ _ _ _ (by omega) (by omega)];by_cases e:n=i
  ·subst e;rw[if_pos ⟨h0,hk⟩]
  ·have hne: ¬(B.pone n≠0/\B.direct (B.pone n) (B.ptwo n)=k):=fun⟨_,h2⟩=>by
    have d1:=FP (B:=B) (a:=B.pone i) (b:=B.ptwo i) (by omega);have d2:=FP (B:=B) (a:=B.pone n) (b:=B.ptwo n) (by omega);rw[hk] at d1;rw[h2] at d2;exact Ol hA (show i<n by omega) (by omega) ⟨d1.1.symm.trans d2.1,d1.2.symm.trans d2.2⟩
   rw[if_neg hne];exact FT hB hA T c hi h0 hk n (by omega) (by omega)
theorem BN (B:Bk) (T T' c:Nat->Int) (h: ∀i,i<B.pairs.length->B.pone i≠0->0<=B.direct (B.pone i) (B.ptwo i)->min (c i) (T' (B.direct (B.pone i) (B.ptwo i)).toNat)=min (c i) (T (B.direct (B.pone i) (B.ptwo i)).toNat)): ∀n,n<=B.pairs.length->B.loadTo T' c n=B.loadTo T c n
 | 0,_=>rfl
 |n+1,hn=>by
  unfold Bk.loadTo;rw[BN B T T' c h n (by omega)];unfold Bk.go;by_cases ha:B.pone n=0
  ·rw[if_pos ha,if_pos ha]
  ·rw[if_neg ha,if_neg ha];by_cases hk:0<=B.direct (B.pone n) (B.ptwo n)
   ·simp only[if_pos hk];rw[h n (by omega) ha hk]
   ·simp only[if_neg hk]
theorem Oo (B:Bk) (hB:B.Fine) (T:Nat->Int) {n n' a b:Int} {out out':Nat->Int} (hn:n<=n') (h: ∀j,j<B.spokes->out j<=out' j) (hab:a≠0->1<=a/\a<b):
  ∀j,j<B.spokes->B.go T n a b out j<=B.go T n' a b out' j:=by
 intro j hj;have hj':=h j hj;unfold Bk.go;by_cases ha:a=0
 ·rw[if_pos ha,if_pos ha];unfold fup
  split
  ·rename_i e;rw[<-e];omega
  ·exact hj'
 ·rw[if_neg ha,if_neg ha];have hab:=hab ha;have hne:(a-1).toNat≠(b-1).toNat:=by omega
  by_cases hk:0<=B.direct a b
  ·simp only[if_pos hk];have hkb:=pF B hB a b;have hkk:B.spokes<=(B.direct a b).toNat:=by omega
   generalize (B.direct a b).toNat=k at *;have hjk:j≠k:=by omega
   unfold fup;simp only[if_neg (Ne.symm hne)];by_cases e1:j=(b-1).toNat
   ·rw[if_pos e1,if_pos e1,<-e1,if_neg hjk,if_neg hjk];omega
   ·rw[if_neg e1,if_neg e1];by_cases e2:j=(a-1).toNat
    ·rw[if_pos e2,if_pos e2,<-e2,if_neg hjk,if_neg hjk];omega
    ·rw[if_neg e2,if_neg e2,if_neg hjk,if_neg hjk];exact hj'
  ·simp only[if_neg hk];unfold fup;simp only[if_neg (Ne.symm hne)];by_cases e1:j=(b-1).toNat
   ·rw[if_pos e1,if_pos e1,<-e1];omega
   ·rw[if_neg e1,if_neg e1];by_cases e2:j=(a-1).toNat
    ·rw[if_pos e2,if_pos e2,<-e2];omega
    ·rw[if_neg e2,if_neg e2];exact hj'
theorem FU (B:Bk) (hB:B.Fine) (T c c':Nat->Int) (hc: ∀i,i<B.pairs.length->c i<=c' i): ∀n,n<=B.pairs.length-> ∀j,j<B.spokes->B.loadTo T c n j<=B.loadTo T c' n j
 | 0,_,_,_=>Int.le_refl _
 |n+1,hn,j,hj=>by
  unfold Bk.loadTo;have he:=hB.ends n (by omega);exact Oo B hB T (hc n (by omega)) (FU B hB T c c' hc n (by omega)) (fun h=>by omega) j hj
theorem FV {B:Bk} (hB:B.Fine) (most:Bool) (h i:Nat):B.call most h i<=B.call true h i:=by
 unfold Bk.call
 cases e:B.pairs[i]? with
 |none=>exact Int.le_refl _
 |some p=>
  simp only[Option.bind_some]
  cases e2:p.calls[h]? with
  |none=>exact Int.le_refl _
  |some x=>
   have:=(hB.calls i p e).2 h x e2
   cases most<;>simp<;>omega
theorem Oq {B:Bk} (hB:B.Fine) (T:Nat->Int) (most:Bool) (h:Nat) {j:Nat} (hj:j<B.spokes):B.inn T most h j<=B.inn T true h j:=
 FU B hB T _ _ (fun i _=>FV hB most h i) _ (nR _) j hj
theorem BO (B:Bk) (T:Nat->Int) (j:Nat): ∀n h,h<n->B.inn T true h j<=bW B T n j
 | 0,h,hh=>by omega
 |n+1,h,hh=>by
  unfold bW;by_cases e:h=n
  ·subst e;omega
  ·have:=BO B T j n h (by omega);omega
theorem FW (B:Bk) (T:Nat->Int) (j:Nat) {m:Int} (hm:0<=m): ∀n,(∀h,h<n->B.inn T true h j<=m)->bW B T n j<=m
 | 0,_=>hm
 |n+1,hh=>by
  unfold bW;have h1:=FW B T j hm n fun h a=>hh h (by omega);have h2:=hh n (by omega);omega
theorem rM (B:Bk) (T:Nat->Int) (j:Nat): ∀n,0<=bW B T n j
 | 0=>Int.le_refl _
 |n+1=>by unfold bW;have:=rM B T j n;omega
theorem FX (B:Bk) (T:Nat->Int) (j:Nat): ∀n,bW B T n j=0\/ ∃h,h<n/\bW B T n j=B.inn T true h j
 | 0=> .inl rfl
 |n+1=>by
  unfold bW;have h1:=rM B T j n;by_cases e:B.inn T true n j<=bW B T n j
  ·rcases FX B T j n with h2 |⟨h,a,b⟩
   ·left;omega
   ·right;exact⟨h,by omega,by omega⟩
  ·right;exact⟨n,by omega,by omega⟩
theorem FY (B:Bk) {T T':Nat->Int} (j:Nat): ∀n,(∀h,h<n->B.inn T' true h j=B.inn T true h j)->bW B T' n j=bW B T n j
 | 0,_=>rfl
 |n+1,hh=>by
  unfold bW;rw[FY B j n fun h a=>hh h (by omega),hh n (by omega)]
def bn (B:Bk) (T:Nat->Int) (k:Nat):Int:=min (T k) (aZ B T k)
theorem BP {B:Bk} (hB:B.Fine) (hA:B.alarm=0) (T:Nat->Int) (most:Bool) {h:Nat} (hh:h<B.hours.toNat):B.inn (bn B T) most h=B.inn T most h:=by
 refine BN B T (bn B T) _ (fun i hi h0 hk=> ?_) _ (nR _);obtain⟨k,hkk⟩: ∃k:Nat,B.direct (B.pone i) (B.ptwo i)=k:=⟨_,(Int.toNat_of_nonneg hk).symm⟩;rw[hkk,Int.toNat_natCast];have h1:=FT hB hA T (B.call true h) hi h0 hkk B.pairs.length hi (nR _);have h2:=BO B T k B.hours.toNat h hh;have h3:=FV hB most h i;unfold bn aZ;unfold Bk.inn Bk.load at h2;omega
theorem FZ (B:Bk) {T T':Nat->Int}: ∀n i c,(∀h,i<=h->h<i+n-> ∀m,(B.lackIn T' m h<0↔B.lackIn T m h<0))->aQ B T' n i c=aQ B T n i c
 | 0,_,_,_=>rfl
 |n+1,i,c,hh=>by
  unfold aQ;have h1:=hh i (nR _) (by omega) false;have h2:=hh i (nR _) (by omega) true;have e:(if 0<=B.lackIn T' true i then (0 :Int) else c)=if 0<=B.lackIn T true i then 0 else c:=by
   split<;>split<;>first |rfl |omega
  rw[e,FZ B n (i+1) _ fun h a b=>hh h (by omega) (by omega)]
  split<;>split<;>first |rfl |omega
theorem Ot {B:Bk} (hB:B.Fine) (hA:B.alarm=0) (T:Nat->Int) (m:Bool) {h:Nat} (hh:h<B.hours.toNat):B.lackIn (bn B T) m h<0↔B.lackIn T m h<0:=by
 rw[vC,vC,BP hB hA T m hh];have hp: ∀j,j<B.spokes->B.inn T m h j<=aZ B T j:=fun j hj=>by
  have h1:=BO B T j _ h hh;have h2:=Oq hB T m h hj;unfold aZ;omega
 refine⟨fun q j hj=> ?_,fun q j hj=> ?_⟩<;>have h1:=q j hj<;>have h2:=hp j hj<;>unfold bn at * <;>omega
theorem Ou {B:Bk} (hB:B.Fine) (hA:B.alarm=0) (T:Nat->Int) (c:Int):aQ B (bn B T) B.hours.toNat 0 c=aQ B T B.hours.toNat 0 c:=
 FZ B _ _ _ fun _ _ hh m=>Ot hB hA T m (by omega)
theorem Ov {B:Bk} (hB:B.Fine) (hA:B.alarm=0) (T:Nat->Int) (k:Nat):aZ B (bn B T) k=aZ B T k:=
 FY B k _ fun _ hh=>congrFun (BP hB hA T true hh) k
theorem Ox {B:Bk} (hB:B.Fine) (hA:B.alarm=0) (T:Nat->Int) (k:Nat):ig B (bn B T) k=0:=by
 unfold ig;rw[Ov hB hA];unfold bn;omega
theorem Oy {B:Bk} (hB:B.Fine) (hA:B.alarm=0) {T:Nat->Int} (h1:aQ B T B.hours.toNat 0 1=1) {k:Nat} (hT0:0<=T k) (hk:k<B.spokes) (h0:bn B T k≠0):aQ B (fup (bn B T) k (bn B T k-1)) B.hours.toNat 0 1≠1:=by
 intro hc;rw[Og] at h1 hc;have hpk:aZ B T k<=T k:=FW B T k hT0 _ fun h hh=>(vC B T true h).1 (h1.2 h (Nat.zero_le _) (by omega)).2 k hk;have hsame: ∀h,B.inn (fup (bn B T) k (bn B T k-1)) true h=B.inn (bn B T) true h:=fun h=>by
  refine BN B _ _ _ (fun i hi hp hd=> ?_) _ (nR _);have:=pF B hB (B.pone i) (B.ptwo i);rw[dQ _ _ (by omega)]
 have hT: ∀h,h<B.hours.toNat->B.inn T true h k<=bn B T k-1:=fun h hh=>by
  have h2:=(vC B _ true h).1 (hc.2 h (Nat.zero_le _) (by omega)).2 k hk;rw[hsame h,BP hB hA T true hh,BZ] at h2;exact h2
 rcases FX B T k B.hours.toNat with e |⟨h,hh,e⟩
 ·unfold bn aZ at *;omega
 ·have h2:=hT h hh;unfold bn aZ at *;omega
noncomputable def iF:Code:=Tryd.f6.body.getD .skip
noncomputable def vH:Code:=match iF with
 | .seq _ (.seq (.seq _ c) _)=>c
 |_=> .skip
noncomputable def jo:Code:=match iF with
 | .seq _ (.seq _ c)=>c
 |_=> .skip
noncomputable def sp5:Array Oper:=match jo with
 | .seq _ (.seq _ (.seq (.region _ o _) _))=>o
 |_=> #[]
noncomputable def jT:Code:=match jo with
 | .seq _ (.seq _ (.seq _ c))=>c
 |_=> .skip
theorem Oz (V:BkV) (B:Bk) (sa:Option Addr) (pn cap:Nat) (q:Int) (w:World) (hs:iw w V B):
  Comes tP [.code iF] (fun it a u=> ∃b1,it= [.code vH,.code jo]/\Sl a 150 ((21,.bool (!oO B)):: [(1,.slice sa pn cap),(2,.int .u8 q),(3,.pointer (some ⟨b1,0,none⟩))])/\(u.cell? ⟨b1,0,none⟩=some (.int .i64 B.hours)/\u.cell? ⟨b1,1,none⟩=some (.slice V.ta B.towns.length V.tc)/\u.cell? ⟨b1,2,none⟩=some (.slice V.la B.links.length V.lc)/\u.cell? ⟨b1,3,none⟩=some (.slice V.pa B.pairs.length V.pc))/\Below w.heap.size w u)
   ⟨(V.val B:: .slice sa pn cap:: .int .u8 q::List.replicate 147 undef).toArray,[]⟩ w:=by
 obtain⟨ta,la,pa,tc,lc,pc⟩:=V;have hb0:Below w.heap.size w (w.alloc (.cells #[.int .i64 B.hours,.slice ta B.towns.length tc,.slice la B.links.length lc,.slice pa B.pairs.length pc] 26)):=(Below.refl _ _).alloc (nR _) _;have HC:=lH (c30 ⟨ta,la,pa,tc,lc,pc⟩ B _ (hs.below hb0 (nR _)));have HB0:=lH hb0;clear hs hb0;simp only[List.replicate,BkV.val];simp only[iF,Tryd.f6,Option.getD_some];refine aK (bg ?_);go_wp2;refine aK (aK (bg ?_))
 go_wp2_with fail
 refine HC.out.mono ?_;rintro e w1 ⟨rfl,hb1⟩;have HB1:=lH (HB0.out.trans (hb1.mono (by simp)));have k0:w1.cell? ⟨w.heap.size,0,none⟩=some (.int .i64 B.hours):=by rw[(ak hb1).1 _ _ (by simp)];go_simp
 have k1:w1.cell? ⟨w.heap.size,1,none⟩=some (.slice ta B.towns.length tc):=by rw[(ak hb1).1 _ _ (by simp)];go_simp
 have k2:w1.cell? ⟨w.heap.size,2,none⟩=some (.slice la B.links.length lc):=by rw[(ak hb1).1 _ _ (by simp)];go_simp
 have k3:w1.cell? ⟨w.heap.size,3,none⟩=some (.slice pa B.pairs.length pc):=by rw[(ak hb1).1 _ _ (by simp)];go_simp
 clear hb1;go_wp2;exact dO ⟨w.heap.size,rfl,⟨rfl,rfl,rfl,rfl,rfl,rfl,trivial⟩,⟨k0,k1,k2,k3⟩,HB1.out⟩
def spares (B:Bk) (T:Nat->Int) (n:Nat):List Int:=(List.range n).map (ig B T)
theorem Gf (B:Bk) (T:Nat->Int) (n:Nat):ints (spares B T n)=kW B T n:=by
 unfold spares kW;simp[ints]
def SpQ (w:World) (V:BkV) (B:Bk) (b1:Nat) (q:Int) (xs:List Int) (it:List Item) (a:Act) (u:World):Prop:=
 ∃lb lc' mb mc,it= [.inRegion sp5 [2,3,4,5,6,7],.code jT]/\Sl a 150 [(2,.int .u8 q),(7,.slice (some ⟨lb,0,none⟩) B.links.length lc'),(8,.slice (some ⟨mb,0,none⟩) B.links.length mc),(9,.int .i64 0),(3,.pointer (some ⟨b1,0,none⟩)),(33,V.val B),(34,.slice (some ⟨lb,0,none⟩) B.links.length lc')]/\SlI u (some ⟨lb,0,none⟩) xs/\SlI u (some ⟨mb,0,none⟩) (spares B (trk xs) xs.length)/\Below w.heap.size w u
theorem OA (V:BkV) (B:Bk) (ps:List Int) (sa:Option Addr) (cap b1:Nat) (q:Int) (a:Act) (w:World) (hB:dL w b1 V B) (hA:B.alarm=0) (hG:Good B) (hs:SlH w sa ps) (hp: ∀x∈ps,0<=x/\x<=65535) (hl:ps.length<=maxLen) (hS:Sl a 150 [(1,.slice sa ps.length cap),(2,.int .u8 q),(3,.pointer (some ⟨b1,0,none⟩))]):
  Comes tP [.code jo] (SpQ w V B b1 q (jQ ps B.links.length)) a w:=by
 obtain⟨ta,la,pa,tc,lc,pc⟩:=V;have hF:=hG.fine;have hll:=hF.links;have htt:=hF.towns;unfold Bk.spokes at hll;have HB:Hid (∀u,Below w.heap.size w u->dL u b1 ⟨ta,la,pa,tc,lc,pc⟩ B):=lH fun u hu=>hB.below hu;obtain⟨e0,e1,e2,e3,_,_,_⟩:=hB;have hz:=wBk _ _ e0;have HC:=lH (c31 B.hours ta B.towns.length tc la B.links.length lc pa B.pairs.length pc ps sa cap w hs hp hl (by omega));have Hlen:=lH (EL ps B.links.length);have Hr:=lH (vG hA (EL ps B.links.length) (MN (ps:=ps) B.links.length));generalize jQ ps B.links.length=xs at *;have HQ:Hid (∀it a u,SpQ w ⟨ta,la,pa,tc,lc,pc⟩ B b1 q xs it a u->SpQ w ⟨ta,la,pa,tc,lc,pc⟩ B b1 q xs it a u):=lH fun _ _ _ h=>h;clear hs hp hl hG hF;obtain⟨t,rfl,hT⟩:=hS.lit;simp only[SlT] at hT;obtain⟨h1,h2,h3,_⟩:=hT;simp only[up,Nat.reduceAdd,h1,h2,h3];clear h1 h2 h3 hS;simp only[jo,iF,Tryd.f6,Option.getD_some];refine aK (bg ?_)
 go_wp2_with fail
 refine HC.out.mono ?_;rintro e w1 ⟨v,rfl,hown,hb1⟩;rw[<-Hlen.out] at hown;obtain⟨lb,lcp,rfl,hlb,hO,hc1,hc2⟩:=BM hown (by rw[Hlen.out];omega);rw[Hlen.out];have HO:=lH hO.sl;have HB1:=lH hb1;have hB1:=HB.out w1 hb1;have hc27:=c27 ⟨ta,la,pa,tc,lc,pc⟩ B xs (some ⟨lb,0,none⟩) lcp w1 hB1.book hB1.vars hO.sl (by rw[Hlen.out];omega);rw[Hlen.out] at hc27;have HC2:=lH hc27;obtain⟨e0,e1,e2,e3,_,_,_⟩:=hB1;clear hown hb1 hO hc27;go_wp2;refine aK (bg ?_)
 go_wp2_with fail
 refine HC2.out.mono ?_;rintro e w2 h;unfold qP at h;rw[if_pos Hr.out,Hlen.out] at h;obtain⟨v,rfl,hown,hb2⟩:=h;rw[<-Gf] at hown;obtain⟨mb,mcp,rfl,hmb,hO2,hd1,hd2⟩:=BM (xs:=spares B (trk xs) B.links.length) (by simpa[spares] using hown) (by simp[spares];omega);rw[show (spares B (trk xs) B.links.length).length=B.links.length by simp[spares]];have HO2:=lH hO2.sl;have HB2:=lH (HB1.out.trans (hb2.mono HB1.out.size));have HO1:=lH (HO.out.below hb2 (nR _));clear hown hb2 hO2 e0 e1 e2 e3;obtain⟨e0,e1,e2,e3,_,_,_⟩:=HB.out w2 HB2.out;have hz:=wBk _ _ e0;go_wp2;refine aK (qN ?_);refine dF rfl rfl (v:= .agg #[.int .i64 B.hours,.slice ta B.towns.length tc,.slice la B.links.length lc,.slice pa B.pairs.length pc]) (w1:=w2) (by go_simp) ?_;refine dF rfl rfl (v:= .slice (some ⟨lb,0,none⟩) B.links.length lcp) (w1:=w2) (by go_simp) ?_;refine dO (HQ.out _ _ _ ⟨lb,lcp,mb,mcp,rfl,⟨rfl,rfl,rfl,rfl,rfl,rfl,rfl,rfl,rfl,trivial⟩,HO1.out,by rw[Hlen.out];exact HO2.out,HB2.out⟩)
noncomputable def BQ:Array Oper:=match jT with
 | .seq _ (.seq _ (.seq _ (.seq (.region _ o _) _)))=>o
 |_=> #[]
noncomputable def kF:Code:=match jT with
 | .seq _ (.seq _ (.seq _ (.seq _ c)))=>c
 |_=> .skip
def lefts (B:Bk) (T:Nat->Int) (n:Nat):List Int:=(List.range n).map (bn B T)
theorem OB (B:Bk) (T:Nat->Int) (n:Nat):ints (lefts B T (n+1))=ints (lefts B T n)++ [.int .i64 (bn B T n)]:=by
 unfold lefts ints;rw[List.range_succ];simp
theorem jU (B:Bk) (T:Nat->Int) (n:Nat):(lefts B T n).length=n:=by simp[lefts]
def SpL (w:World) (V:BkV) (B:Bk) (b1 mb mc:Nat) (q:Int) (xs:List Int) (c:Int) (it:List Item) (a:Act) (u:World):Prop:=
 ∃fb fc,it= [.inRegion BQ [2,3,4,5,6,7],.code kF]/\Sl a 150 [(2,.int .u8 q),(10,.int .i64 c),(8,.slice (some ⟨mb,0,none⟩) B.links.length mc),(12,.slice (some ⟨fb,0,none⟩) B.links.length fc),(3,.pointer (some ⟨b1,0,none⟩)),(80,V.val B),(81,.slice (some ⟨fb,0,none⟩) B.links.length fc)]/\iO u fb (lefts B (trk xs) B.links.length)/\w.heap.size<=fb/\Below w.heap.size w u
theorem OC (V:BkV) (B:Bk) (b1 lb lc' mb mc:Nat) (q:Int) (xs:List Int) (c:Int) (a:Act) (w:World) (hB:dL w b1 V B) (hG:Good B) (hx:SlI w (some ⟨lb,0,none⟩) xs) (hm:SlI w (some ⟨mb,0,none⟩) (spares B (trk xs) B.links.length)) (hxl:xs.length=B.links.length) (hbt:dN xs=false)
  (hS:Sl a 150 [(2,.int .u8 q),(10,.int .i64 c),(11,.int .i64 0),(9,.int .i64 0),(7,.slice (some ⟨lb,0,none⟩) B.links.length lc'),(8,.slice (some ⟨mb,0,none⟩) B.links.length mc),(3,.pointer (some ⟨b1,0,none⟩))]):Comes tP [.code jT] (SpL w V B b1 mb mc q xs c) a w:=by
 have hll:=hG.fine.links;have htt:=hG.fine.towns;unfold Bk.spokes at hll;have HB:Hid (∀u,Below w.heap.size w u->dL u b1 V B):=lH fun u hu=>hB.below hu;have Hok:=lH (lZ hbt);have HP:=lH (fun k=>rM B (trk xs) k B.hours.toNat);have HX:Hid (∀k,k<B.links.length->w.cell? ⟨lb,k,none⟩=some (.int .i64 (trk xs k))):=lH fun k hk=>by
  have hxk:xs[k]? =some (trk xs k):=by
   rw[lG (by omega)];unfold trk;rw[lD,lG (by omega)];rfl
  obtain⟨_,_,e,h0⟩:=hx k _ hxk
  cases e
  rwa [Nat.zero_add] at h0
 have HM:Hid (∀k,k<B.links.length->w.cell? ⟨mb,k,none⟩=some (.int .i64 (ig B (trk xs) k))):=lH fun k hk=>by
  obtain⟨_,_,e,h0⟩:=hm k (ig B (trk xs) k) (by simp[spares,hk])
  cases e
  rwa [Nat.zero_add] at h0
 have HQ:Hid (∀it a u,SpL w V B b1 mb mc q xs c it a u->SpL w V B b1 mb mc q xs c it a u):=lH fun _ _ _ h=>h;generalize hQd:SpL w V B b1 mb mc q xs c=Q;rw[hQd] at HQ;have HQ2:Hid (∀it a u,(∃fb fc,it= [.inRegion BQ [2,3,4,5,6,7],.code kF]/\Sl a 150 [(2,.int .u8 q),(10,.int .i64 c),(8,.slice (some ⟨mb,0,none⟩) B.links.length mc),(12,.slice (some ⟨fb,0,none⟩) B.links.length fc),(3,.pointer (some ⟨b1,0,none⟩)),(80,V.val B),(81,.slice (some ⟨fb,0,none⟩) B.links.length fc)]/\iO u fb (lefts B (trk xs) B.links.length)/\w.heap.size<=fb/\Below w.heap.size w u)->Q it a u):=lH fun it a u h=>by subst hQd;exact h
 clear hB hx hm hbt hG HQ hQd;have hn1:1<=B.links.length:=by omega
 have hn6:B.links.length<=6:=hll.2;obtain⟨ta,la,pa,tc,lc,pc⟩:=V;obtain⟨i0,hi,hz0,hz1,hz2⟩:=info_parts info3;obtain⟨t,rfl,hT⟩:=hS.lit;simp only[SlT] at hT;obtain⟨h2,h10,h11,h9,h7,h8,h3,_⟩:=hT;simp only[up,Nat.reduceAdd,h2,h10,h11,h9,h7,h8,h3];clear h2 h10 h11 h9 h7 h8 h3 hS;simp only[jT,jo,iF,Tryd.f6,Option.getD_some];refine aK (bg ?_);go_wp2;refine aK (bg ?_);go_wp2;refine aK (bg ?_)
 go_wp2_with fail
 go_loopw [12,13] (fun v i wr=> ∃k:Nat,k<=B.links.length/\i= .int .i64 (k:Int)/\wr.ownsRow w.heap.size 3 1 v k (ints (lefts B (trk xs) k))/\Below w.heap.size w wr) (fun _ i _=>B.links.length-(intOf i).toNat)
 case atStart=>exact⟨0,Nat.zero_le _,rfl,World.ownsRow_nil _ _ _ _,Below.refl _ _⟩
 case round=>
  obtain⟨k,hk,rfl,hown,hb⟩:=hrel;have Hown:=lH hown;have Hb:=lH hb;clear hown hb;by_cases hlt:k<B.links.length
  ·have q0:=cell_below Hb.out (HX.out k hlt) (nR _);have q1:=cell_below Hb.out (HM.out k hlt) (nR _);have Hq0:=lH (HX.out k hlt);have Hq1:=lH (HM.out k hlt);have hs0:bn B (trk xs) k=trk xs k-ig B (trk xs) k:=by unfold bn ig;omega
   have hs1:0<=ig B (trk xs) k/\ig B (trk xs) k<=trk xs k:=by
    have h1:=Hok.out k;have h2:=HP.out k;unfold ig aZ;omega
   have hx20:=Hok.out k;have Hsn:=lH (OB B (trk xs) k);rw[hs0] at Hsn;clear hs0;generalize trk xs k=x at *;generalize ig B (trk xs) k=s at *;have hws:IntKind.wrap .i64 (x-s)=x-s:=IntWalk.i64_in _ (by omega);have hbt:btw s 0 x=true:=by simp[btw,hs1]
   have Hb63:Hid (k+1<=maxLen):=lH (by unfold maxLen;omega);have Hbb:Hid ((k+1)*8<=140737488355328):=lH (by omega);have hqw:wr.cell? ⟨mb,k,none⟩=some (.int .i64 s)/\wr.cell? ⟨lb,k,none⟩=some (.int .i64 x):=⟨q1,q0⟩
   go_wp2_with fail
   go_region_held3 (fun w'=>w'=wr.drew/\w'.cell? ⟨mb,k,none⟩=some (.int .i64 s)/\w'.cell? ⟨lb,k,none⟩=some (.int .i64 x))
    (first
     |exact⟨rfl,q1,q0⟩
     |assumption)
    (first
     | (go_simp;go_at_call 37;refine(gU _ _ _ _).mono ?_;rintro e w1 ⟨rfl,rfl⟩))
   have Hown1:Hid (wr.drew.ownsRow w.heap.size 3 1 u12 k (ints (lefts B (trk xs) k))):=Hown;have Hb1:Hid (Below w.heap.size w wr.drew):=lH Hb.out.drew;clear Hown Hb;have q2:wr.drew.cell? ⟨mb,k,none⟩=some (.int .i64 s):=q1;have q3:wr.drew.cell? ⟨lb,k,none⟩=some (.int .i64 x):=q0;clear q0 q1 hqw;generalize wr.drew=w1 at *;have HA:Hid (((w1.alloc (.cells #[.int .i64 (x-s)] 3)).drew).ownsRow w.heap.size 3 1 u12 k (ints (lefts B (trk xs) k))):=lH (Hown1.out.alloc _);have HBA:Hid (Below w.heap.size w ((w1.alloc (.cells #[.int .i64 (x-s)] 3)).drew)):=lH (Hb1.out.alloc Hb1.out.size _).drew;have HN:Hid (∀(j:Nat) (u:Value),([.int .i64 (x-s)]:List Value)[j]? =some u->((w1.alloc (.cells #[.int .i64 (x-s)] 3)).drew).cell? ((⟨w1.heap.size,0,none⟩:Addr).add j)=some u):=lH fun j u hj=>by
    match j,hj with
    | 0,hj=>cases hj;simp only[Addr.add];go_simp
   have H1c:Hid (∀u∈([.int .i64 (x-s)]:List Value),u.oneCell'=true):=lH (by simp[Value.oneCell']);have HC:Hid (∀u:World,Below w.heap.size w u->u.cell? ⟨mb,k,none⟩=some (.int .i64 s)/\u.cell? ⟨lb,k,none⟩=some (.int .i64 x)):=lH fun u hu=>⟨cell_below hu Hq1.out (nR _),cell_below hu Hq0.out (nR _)⟩
   go_wp2_with fail
   go_region_held3 (fun w'=>w'.cell? ⟨mb,k,none⟩=some (.int .i64 s)/\w'.cell? ⟨lb,k,none⟩=some (.int .i64 x))
    (first
     |exact⟨q2,q3⟩
     |exact HC.out _ HBA.out
     |exact HC.out _ hb3.out)
    (first
     | ((refine step_append_lies _ (by rfl) _ _ 27 (by rfl) w.heap.size 3 i0 (.int .i64 0) 1 8 Tryd.underlying27 hi hz0 hz1 hz2 (by rfl) (by decide) u12 k (ints (lefts B (trk xs) k)) (by rfl) HA.out ⟨w1.heap.size,0,none⟩ 1 1 [.int .i64 (x-s)] (by rfl) (by rfl) HN.out H1c.out (by decide) Hb63.out Hbb.out HBA.out.size _ rfl ?_);intro g2 cap2 w3 hown2 hgrow hat hltt;have hb3:Hid (Below w.heap.size w w3):=lH (HBA.out.grown hgrow HBA.out.size (fun j hj=>(HA.out.lt j hj).1))))
   rw[<-Hsn.out] at hown2;go_wp2;go_roundw
   case rel=>exact⟨k+1,by omega,by go_num,hown2,hb3.out⟩
   case measure=>simp[intOf];omega
  ·have hke:k=B.links.length:=by omega
   subst hke;obtain⟨fb,fc,rfl,hfb,hO,hf1,hf2⟩:=BM (xs:=lefts B (trk xs) B.links.length) (by rw[jU];exact Hown.out) (by rw[jU];omega);have HO:=lH hO;have Hfb:=lH hfb;rw[jU];clear hO hfb hf1 hf2;have hBk:=HB.out wr Hb.out;obtain⟨e0,e1,e2,e3,_,_,_⟩:=hBk;have hz:=wBk _ _ e0
   go_wp2_with fail
   refine aK (qN ?_);refine dF rfl rfl (v:= .agg #[.int .i64 B.hours,.slice ta B.towns.length tc,.slice la B.links.length lc,.slice pa B.pairs.length pc]) (w1:=wr) (by go_simp) ?_;refine dF rfl rfl (v:= .slice (some ⟨fb,0,none⟩) B.links.length fc) (w1:=wr) (by go_simp) ?_;exact dO (HQ2.out _ _ _ ⟨fb,fc,rfl,⟨rfl,rfl,rfl,rfl,rfl,rfl,rfl,rfl,rfl,trivial⟩,HO.out,Hfb.out,Hb.out⟩)
noncomputable def rO:Code:=match kF with
 | .seq _ (.seq _ (.seq _ (.seq (.seq _ c) _)))=>c
 |_=> .skip
noncomputable def mZ:Code:=match kF with
 | .seq _ (.seq _ (.seq _ (.seq _ c)))=>c
 |_=> .skip
theorem BR {B:Bk} {xs:List Int} {n:Nat} (hxl:xs.length=n):trk (lefts B (trk xs) n)=bn B (trk xs):=by
 funext k
 conv=>lhs;unfold trk lefts
 rw[lD,List.getElem?_map];by_cases h:k<n
 ·rw[List.getElem?_range h];rfl
 ·rw[List.getElem?_eq_none (by simpa using h)];have h1:=rM B (trk xs) k B.hours.toNat;have h0:trk xs k=0:=by
   unfold trk;rw[lD,List.getElem?_eq_none (by omega)];rfl
  unfold bn aZ;simp;omega
theorem BU {B:Bk} {xs:List Int} (h:dN xs=false) (k:Nat):0<=bn B (trk xs) k/\bn B (trk xs) k<=20:=by
 have h0:=lZ h k;have h1:=rM B (trk xs) k B.hours.toNat;unfold bn aZ;omega
theorem BX {B:Bk} {xs:List Int} (n:Nat) (h:dN xs=false):dN (lefts B (trk xs) n)=false:=by
 conv=>lhs;unfold dN
 rw[List.any_eq_false];intro y hy;obtain⟨k,_,rfl⟩:=List.mem_map.1 hy;have:=BU (B:=B) h k;simp[btw];omega
theorem OD {B:Bk} (hG:Good B) (hA:B.alarm=0) (T:Nat->Int) (n:Nat):spares B (bn B T) n=List.replicate n 0:=by
 rw[List.eq_replicate_iff];refine⟨by simp[spares],fun y hy=> ?_⟩;obtain⟨k,_,rfl⟩:=List.mem_map.1 hy;exact Ox hG.fine hA T k
def SpM (w:World) (B:Bk) (b1 fb fc k:Nat) (xs:List Int) (c:Int) (it:List Item) (a:Act) (u:World):Prop:=
 it= [.code rO,.code mZ]/\Sl a 150 [(125,.bool (!decide (c=1)||decide (bn B (trk xs) k=0))),(12,.slice (some ⟨fb,0,none⟩) B.links.length fc),(18,.int .i64 (k:Int)),(3,.pointer (some ⟨b1,0,none⟩))]/\Below w.heap.size w u
theorem OE (V:BkV) (B:Bk) (b1 mb mc fb fc:Nat) (q:Int) (hq:0<=q/\q<=255) (xs:List Int) (c:Int) (a:Act) (w:World) (hB:dL w b1 V B) (hA:B.alarm=0) (hG:Good B) (hO:iO w fb (lefts B (trk xs) B.links.length)) (hxl:xs.length=B.links.length) (hbt:dN xs=false)
  (hS:Sl a 150 [(15,.int .i64 0),(14,.int .i64 c),(2,.int .u8 q),(10,.int .i64 c),(8,.slice (some ⟨mb,0,none⟩) B.links.length mc),(12,.slice (some ⟨fb,0,none⟩) B.links.length fc),(3,.pointer (some ⟨b1,0,none⟩))]):Comes tP [.code kF] (SpM w B b1 fb fc (q % (B.towns.length-1)).toNat xs c) a w:=by
 have hll:=hG.fine.links;have htt:=hG.fine.towns;unfold Bk.spokes at hll;have hn1:1<=B.links.length:=by omega
 have hn6:B.links.length<=6:=hll.2;have HB:Hid (∀u,Below w.heap.size w u->dL u b1 V B):=lH fun u hu=>hB.below hu;have H27:Hid (∀u,Below w.heap.size w u->Calls tP 27 #[V.val B,.slice (some ⟨fb,0,none⟩) B.links.length fc] u fun e w'=> ∃eb ec,e= .returned (.tuple #[.slice (some ⟨eb,0,none⟩) B.links.length ec,.int .i64 0])/\SlI w' (some ⟨eb,0,none⟩) (List.replicate B.links.length 0)/\Below u.heap.size u w'):=lH fun u hu=>by
  have hB:=HB.out u hu;have h:=c27 V B (lefts B (trk xs) B.links.length) (some ⟨fb,0,none⟩) fc u hB.book hB.vars ((hO.below hu).sl) (by rw[jU];omega);rw[jU] at h;refine h.mono ?_;rintro e w' h;unfold qP at h;rw[if_pos (vG hA (jU _ _ _) (BX _ hbt)),jU,BR hxl,<-Gf,OD hG hA] at h;obtain⟨v,rfl,hown,hb⟩:=h;obtain⟨eb,ec,rfl,_,hO2,_,_⟩:=BM (xs:=List.replicate B.links.length 0) (by simpa using hown) (by simp;omega);refine⟨eb,ec, ?_,hO2.sl,hb⟩;simp
 have H38:Hid (∀(u:World) (eb ec zb zc:Nat),SlI u (some ⟨eb,0,none⟩) (List.replicate B.links.length 0)->SlI u (some ⟨zb,0,none⟩) (List.replicate B.links.length 0)->Calls tP 38 #[.slice (some ⟨eb,0,none⟩) B.links.length ec,.slice (some ⟨zb,0,none⟩) B.links.length zc] u fun e w'=>e= .returned (.bool true)/\Below u.heap.size u w'):=lH fun u eb ec zb zc h1 h2=>by
  have h:=c38 _ _ _ _ ec zc u h1 h2 (by simp;omega) (by simp;omega);rw[List.length_replicate,decide_eq_true rfl] at h;exact h
 have HZ:=lH (acg B.links.length);have HO:Hid (∀k,k<B.links.length-> ∀u,Below w.heap.size w u->u.cell? ⟨fb,k,none⟩=some (.int .i64 (bn B (trk xs) k))):=lH fun k hk u hu=>by
  obtain⟨_,_,e,h0⟩:=(hO.below hu).sl k (bn B (trk xs) k) (by simp[lefts,hk])
  cases e
  rwa [Nat.zero_add] at h0
 have hmk:=acf B.links.length hn1 hn6;obtain⟨k,hk⟩: ∃k:Nat,(k:Int)=q % ((B.towns.length:Int)-1):=⟨(q % ((B.towns.length:Int)-1)).toNat,Int.toNat_of_nonneg (Int.emod_nonneg q (show (B.towns.length:Int)-1≠0 by omega))⟩;have hkn:(k:Int)<(B.towns.length:Int)-1:=by have:=Int.emod_lt_of_pos q (show (0 :Int)<(B.towns.length:Int)-1 by omega);omega
 have HK:Hid ((q % ((B.towns.length:Int)-1)).toNat=k):=lH (by rw[<-hk];exact Int.toNat_natCast k);have hrem:Int.tmod q ((B.towns.length:Int)-1)=(k:Int):=by rw[hk];exact Int.tmod_eq_emod_of_nonneg hq.1
 have hnz:((B.towns.length:Int)-1==0)=false:=by rw[beq_eq_false_iff_ne];omega
 have hwq:IntKind.wrap .i64 q=q:=IntWalk.i64_in _ (by omega);have hwk:IntKind.wrap .i64 (k:Int)=(k:Int):=IntWalk.i64_in _ (by omega);have hwt:IntKind.wrap .i64 ((B.towns.length:Int)-1)=(B.towns.length:Int)-1:=IntWalk.i64_in _ (by omega);rw[HK.out];have Hy:=lH (BU (B:=B) hbt k);have HOk:=lH (HO.out k (by omega));have HQ2:Hid (∀it a u,it= [.code rO,.code mZ]/\Sl a 150 [(125,.bool (!decide (c=1)||decide (bn B (trk xs) k=0))),(12,.slice (some ⟨fb,0,none⟩) B.links.length fc),(18,.int .i64 (k:Int)),(3,.pointer (some ⟨b1,0,none⟩))]/\Below w.heap.size w u->SpM w B b1 fb fc k xs c it a u):=lH fun _ _ _ h=>h;generalize SpM w B b1 fb fc k xs c=Q at *;obtain⟨e0,e1,e2,e3,_,_,_⟩:=hB;have hz:=wBk _ _ e0;clear hO hG hk HK HO hbt hA;generalize bn B (trk xs) k=y at *;obtain⟨ta,la,pa,tc,lc,pc⟩:=V;obtain⟨t,rfl,hT⟩:=hS.lit;simp only[SlT] at hT;obtain⟨h15,h14,h2,h10,h8,h12,h3,_⟩:=hT;simp only[up,Nat.reduceAdd,h15,h14,h2,h10,h8,h12,h3];clear h15 h14 h2 h10 h8 h12 h3 hS;simp only[kF,jT,jo,iF,Tryd.f6,Option.getD_some];have Hrm:=lH (And.intro hrem (And.intro hnz (And.intro hwq (And.intro hwk hwt))));clear hrem hnz hwq hwk hwt;refine aK (bg ?_)
 go_wp2_with fail
 refine(H27.out w (Below.refl _ _)).mono ?_;rintro e w1 ⟨eb,ec,rfl,hE,hb1⟩;have HE:=lH hE;have HB1:=lH hb1;clear hE hb1 e0 e1 e2 e3 hz;go_wp2;refine aK (aK (bg ?_))
 go_wp2_with fail
 refine(H38.out _ eb ec w1.heap.size B.links.length (HE.out.below ((Below.refl _ _).alloc (nR _) _) (nR _)) (HZ.out w1).sl).mono ?_;rintro e w2 ⟨rfl,hb2⟩;have HB2:Hid (Below w.heap.size w w2):=lH ((HB1.out.alloc HB1.out.size _).trans (hb2.mono (HB1.out.alloc HB1.out.size _).size));clear hb2;go_wp2;refine ace (t:=false) rfl ?_;rw[if_neg (by decide)];refine bg ?_;go_wp2;obtain⟨e0,e1,e2,e3,_,_,_⟩:=HB.out w2 HB2.out;have hz:=wBk _ _ e0;obtain⟨hrem,hnz,hwq,hwk,hwt⟩:=Hrm.out;refine aK (bg ?_);go_wp2;clear e0 e1 e2 e3;have d0:=HOk.out w2 HB2.out;have hfz:=wBk _ _ d0;have hkl:(k:Int)<B.links.length:=by omega
 by_cases hc:c=1
 ·subst hc;refine aK (aK (bg ?_));go_wp2;refine dO (HQ2.out _ _ _ ⟨rfl,⟨rfl,rfl, ?_,rfl,rfl,rfl,trivial⟩,HB2.out⟩);by_cases hy:y=0
  ·subst hy;rfl
  ·simp[hy]
 ·have hcb:(c==1)=false:=by simpa using hc
  refine aK (aK (bg ?_));go_wp2;refine dO (HQ2.out _ _ _ ⟨rfl,⟨rfl,rfl, ?_,rfl,rfl,rfl,trivial⟩,HB2.out⟩);simp[hc]
noncomputable def Gg:Array Oper:=match mZ with
 | .seq _ (.seq (.region _ o _) _)=>o
 |_=> #[]
noncomputable def vI:Code:=match mZ with
 | .seq _ (.seq _ c)=>c
 |_=> .skip
noncomputable def Gh:Array Oper:=match vI with
 | .seq (.region _ o _) _=>o
 |_=> #[]
theorem OG (V:BkV) (B:Bk) (b1 fb fc k:Nat) (xs:List Int) (a:Act) (w:World) (hB:dL w b1 V B) (hbf:b1≠fb) (hO:iO w fb xs) (hk:k<B.links.length) (hxk:xs[k]? =some (trk xs k)) (hy:0<=trk xs k/\trk xs k<=20)
  (hS:Sl a 150 [(12,.slice (some ⟨fb,0,none⟩) B.links.length fc),(18,.int .i64 (k:Int)),(3,.pointer (some ⟨b1,0,none⟩))]):Comes tP [.code mZ] (fun it a u=>it= [.inRegion Gg [2,3,4,5,6,7],.code vI]/\Sl a 150 [(12,.slice (some ⟨fb,0,none⟩) B.links.length fc),(3,.pointer (some ⟨b1,0,none⟩)),(136,V.val B),(137,.slice (some ⟨fb,0,none⟩) B.links.length fc)]/\u=w.setCell ⟨fb,k,none⟩ (.int .i64 (trk xs k-1))) a w:=by
 have d0:w.cell? ⟨fb,k,none⟩=some (.int .i64 (trk xs k)):=by
  obtain⟨_,_,e,h0⟩:=hO.sl k _ hxk
  cases e
  rwa [Nat.zero_add] at h0
 have hfr:=hO.free k;have hfz:=hO.lt;obtain⟨ta,la,pa,tc,lc,pc⟩:=V;obtain⟨e0,e1,e2,e3,_,_,_⟩:=hB;clear hxk hO;generalize trk xs k=y at *;have f: ∀i v,w.cell? ⟨b1,i,none⟩=some v->(w.setCell ⟨fb,k,none⟩ (.int .i64 (y-1))).cell? ⟨b1,i,none⟩=some v:=fun i v h=>by
  rw[World.cell?_setCell_other _ _ _ _ (by intro e;injection e with e;exact hbf e.symm)];exact h
 have g0:=f _ _ e0;have g1:=f _ _ e1;have g2:=f _ _ e2;have g3:=f _ _ e3;have hz:=wBk _ _ g0;have hkl:(k:Int)<B.links.length:=by omega
 have hwy:IntKind.wrap .i64 (y-1)=y-1:=IntWalk.i64_in _ (by omega);have HF:=lH (And.intro g0 (And.intro g1 (And.intro g2 g3)));clear g0 g1 g2 g3 f hz e0 e1 e2 e3;obtain⟨t,rfl,hT⟩:=hS.lit;simp only[SlT] at hT;obtain⟨h12,h18,h3,_⟩:=hT;simp only[up,Nat.reduceAdd,h12,h18,h3];clear h12 h18 h3 hS;simp only[mZ,kF,jT,jo,iF,Tryd.f6,Option.getD_some];refine aK (bg ?_);go_wp2;obtain⟨g0,g1,g2,g3⟩:=HF.out;generalize hW:w.setCell ⟨fb,k,none⟩ (.int .i64 (y-1))=W at *;refine aK (qN ?_);refine dF rfl rfl (v:= .agg #[.int .i64 B.hours,.slice ta B.towns.length tc,.slice la B.links.length lc,.slice pa B.pairs.length pc]) (w1:=W) (by go_simp) ?_;refine dF rfl rfl (v:= .slice (some ⟨fb,0,none⟩) B.links.length fc) (w1:=W) (by go_simp) ?_;exact dO ⟨rfl,⟨rfl,rfl,rfl,rfl,rfl,rfl,trivial⟩,rfl⟩
theorem OH (V:BkV) (B:Bk) (ps:List Int) (sa:Option Addr) (cap:Nat) (q:Int) (w:World) (hq:0<=q/\q<=255) (hs:iw w V B) (hr:fH w V) (hv:Vars w) (hp:SlH w sa ps) (hpb: ∀x∈ps,0<=x/\x<=65535) (hl:ps.length<=maxLen):
  GL tP 6 [.code iF] (mY w) ⟨(V.val B:: .slice sa ps.length cap:: .int .u8 q::List.replicate 147 undef).toArray,[]⟩ w:=by
 refine pq (fun τ=>Oz V B sa ps.length cap q (w.tp τ 0 noJ) hs.tp) ?_;rintro τ it a u ⟨b1,rfl,hS,hc,hb⟩;have hk:Kept w.heap.size w u:=rJ (Kept.refl _ _) hb;have e21:a.eval (.tmp 21)= .bool (!oO B):=by rw[ev];exact hS.2.2.1
 cases hf:oO B with
 |false=>
  rw[hf] at e21;simp only[vH,iF,Tryd.f6,Option.getD_some];refine sO good true e21 ?_;rw[if_pos rfl];refine kV good (oJ good ?_);exact Ob (N:=150) (i:=0) FI Tryd.func6 rfl rfl rfl rfl rfl rfl rfl rfl rfl (by decide) (by decide) (by decide) ⟨hS.1,hS.2.1,trivial⟩ (hv.kept hk) hk
 |true=>
  rw[hf] at e21 hS;obtain⟨hg,ha⟩:=ab9 hf;have hG:=gY ha;have hh:=hG.fine.links.2;have hB:=acd hs hr hv hg hk hc;have hb1:b1<u.heap.size:=wBk _ _ hB.c0;have e:vH= .cond (.tmp 21) (match vH with | .cond _ x _=>x |_=> .skip) .skip:=rfl;rw[e];refine sO good false e21 ?_;rw[if_neg (by decide)];refine LM good ?_;have hxl:=EL ps B.links.length;have hxb:=MN (ps:=ps) B.links.length;refine pq (fun τ=>OA V B ps sa cap b1 q a (u.tp τ 0 noJ) (hB.kept jD) ha hG ((hp.kept hk).kept jD) hpb hl ⟨hS.1,hS.2.1,hS.2.2.2⟩) ?_;generalize jQ ps B.links.length=xs at *;rintro τ1 it a1 u1 ⟨lb,lc',mb,mc,rfl,hS1,hlx,hmx,hb1'⟩;have hrx:=vG ha hxl hxb;have hk1:Kept u.heap.size u u1:=rJ (Kept.refl _ _) hb1';have hB1:=hB.kept hk1;have hkw1:=hk.trans (hk1.mono hk.size);have en1:=qO u1 V B xs (some ⟨lb,0,none⟩) lc' hB1.book hB1.rows hB1.vars hlx (by omega);rw[hxl] at en1 hmx;simp only[sp5,jo,iF,Tryd.f6,Option.getD_some];refine pz en1 hS1 ?_;rintro a v u2 ⟨rfl,hk2⟩ hS;rw[FK hrx] at hS;have hB2:=hB1.kept hk2;have hkw2:=hkw1.trans (hk2.mono hkw1.size);have hku2:=hk1.trans (hk2.mono hk1.size);have hfew: ∀k,aQ B (trk xs) B.hours.toNat 0 1=1->k<B.spokes->bn B (trk xs) k≠0->aQ B (fup (bn B (trk xs)) k (bn B (trk xs) k-1)) B.hours.toNat 0 1≠1:=fun k h1 hk h0=>Oy hG.fine ha h1 (lZ hxb k).1 hk h0;have hsame:=Ou hG.fine ha (trk xs) 1;generalize aQ B (trk xs) B.hours.toNat 0 1=c at *;refine aU (.tuple #[.int .i64 c,.int .i64 0]) hS fun a hS=> ?_;refine aU (.int .i64 c) hS fun a hS=> ?_;refine aU (.int .i64 0) hS fun a hS=> ?_;refine aU (.int .i64 c) hS fun a hS=> ?_;refine aU (.int .i64 0) hS fun a hS=> ?_;refine lY good ?_;obtain⟨z1,z2,z3⟩:=hS;simp only[SlA] at z3;obtain⟨y11,y10,_,_,_,_,y2,y7,y8,y9,y3,_⟩:=z3;refine pq (fun τ=>OC V B b1 lb lc' mb mc q xs c a (u2.tp τ 0 noJ) (hB2.kept jD) hG ((hlx.kept hk2).kept jD) ((hmx.kept hk2).kept jD) hxl hxb ⟨z1,z2,y2,y10,y11,y9,y7,y8,y3,trivial⟩) ?_;rintro τ3 it a u3 ⟨fb,fc,rfl,hS3,hO3,hfb,hb3⟩;have hk3:Kept u2.heap.size u2 u3:=rJ (Kept.refl _ _) hb3;have hB3:=hB2.kept hk3;have hkw3:=hkw2.trans (hk3.mono hkw2.size);have hfb2:u.heap.size<=fb:=by rw[jO] at hfb;exact Nat.le_trans hku2.size hfb
  have en2:=qO u3 V B (lefts B (trk xs) B.links.length) (some ⟨fb,0,none⟩) fc hB3.book hB3.rows hB3.vars hO3.sl (by rw[jU];omega);rw[jU] at en2;simp only[BQ,jT,jo,iF,Tryd.f6,Option.getD_some];refine pz en2 hS3 ?_;rintro a v u4 ⟨rfl,hk4⟩ hS;rw[FK (vG ha (jU _ _ _) (BX _ hxb)),BR hxl,hsame] at hS;have hB4:=hB3.kept hk4;have hO4:=hO3.kept hk4;have hkw4:=hkw3.trans (hk4.mono hkw3.size);refine aU (.tuple #[.int .i64 c,.int .i64 0]) hS fun a hS=> ?_;refine aU (.int .i64 c) hS fun a hS=> ?_;refine aU (.int .i64 0) hS fun a hS=> ?_;refine aU (.int .i64 c) hS fun a hS=> ?_;refine aU (.int .i64 0) hS fun a hS=> ?_;refine lY good ?_;obtain⟨z1,z2,z3⟩:=hS;simp only[SlA] at z3;obtain⟨y15,y14,_,_,_,_,y2,y10,y8,y12,y3,_⟩:=z3;refine pq (fun τ=>OE V B b1 mb mc fb fc q hq xs c a (u4.tp τ 0 noJ) (hB4.kept jD) ha hG (hO4.kept jD) hxl hxb ⟨z1,z2,y15,y14,y2,y10,y8,y12,y3,trivial⟩) ?_;have htt:=hG.fine.towns;obtain⟨k,hkk⟩: ∃k:Nat,(k:Int)=q % ((B.towns.length:Int)-1):=⟨(q % ((B.towns.length:Int)-1)).toNat,Int.toNat_of_nonneg (Int.emod_nonneg q (show (B.towns.length:Int)-1≠0 by omega))⟩;have hkn:k<B.spokes:=by
   have:=Int.emod_lt_of_pos q (show (0 :Int)<(B.towns.length:Int)-1 by omega);unfold Bk.spokes;omega
  have hkl:k<B.links.length:=Nat.lt_of_lt_of_le hkn hG.fine.links.1;rw[<-hkk,Int.toNat_natCast];rintro τ5 it a u5 ⟨rfl,hS5,hb5⟩;have hk5:Kept u4.heap.size u4 u5:=rJ (Kept.refl _ _) hb5;have hB5:=hB4.kept hk5;have hO5:=hO4.kept hk5;have hkw5:=hkw4.trans (hk5.mono hkw4.size);have e125:a.eval (.tmp 125)= .bool (!decide (c=1)||decide (bn B (trk xs) k=0)):=by rw[ev];exact hS5.2.2.1
  have hyb:=BU (B:=B) hxb k
  cases hcc:(!decide (c=1)||decide (bn B (trk xs) k=0)) with
  |true=>
   rw[hcc] at e125;simp only[rO,kF,jT,jo,iF,Tryd.f6,Option.getD_some];refine sO good true e125 ?_;rw[if_pos rfl];refine kV good (oJ good ?_);exact Ob (N:=150) (i:=0) FI Tryd.func6 rfl rfl rfl rfl rfl rfl rfl rfl rfl (by decide) (by decide) (by decide) ⟨hS5.1,hS5.2.1,trivial⟩ hB5.vars hkw5
  |false=>
   rw[hcc] at e125;simp only[Bool.or_eq_false_iff,Bool.not_eq_false',decide_eq_true_eq,decide_eq_false_iff_not] at hcc;obtain⟨hc1,hy0⟩:=hcc;have hne:=hfew k hc1 hkn hy0;have e3:rO= .cond (.tmp 125) (match rO with | .cond _ x _=>x |_=> .skip) .skip:=rfl;rw[e3];refine sO good false e125 ?_;rw[if_neg (by decide)];refine LM good ?_;have hlen:=jU B (trk xs) B.links.length;have htr:=BR (B:=B) hxl;have hok:=BX (B:=B) B.links.length hxb;rw[<-congrFun htr k] at hyb hne;rw[<-htr] at hne;generalize lefts B (trk xs) B.links.length=ys at *;have hyk:ys[k]? =some (trk ys k):=by
    rw[lG (by omega)];unfold trk;rw[lD,lG (by omega)];rfl
   have hy1:trk ys k≠0:=by rw[congrFun htr k];exact hy0
   refine pq (fun τ=>OG V B b1 fb fc k ys a (u5.tp τ 0 noJ) (hB5.kept jD) (by omega) (hO5.kept jD) hkl hyk hyb ⟨hS5.1,hS5.2.1,hS5.2.2.2⟩) ?_;rintro τ6 it a u6 ⟨rfl,hS6,hu6⟩;have hk6:Kept u.heap.size u u6:=by
    rw[hu6];refine ach ?_ hfb2 _;have h5:Kept u.heap.size u u5:=(hku2.trans (hk3.mono hku2.size)).trans ((hk4.mono (Nat.le_trans hku2.size hk3.size)).trans (hk5.mono (Nat.le_trans hku2.size (Nat.le_trans hk3.size hk4.size))));exact fC.2 h5
   have hB6:=hB.kept hk6;have hkw6:=hk.trans (hk6.mono hk.size);have hO6:iO u6 fb (ys.set k (trk ys k-1)):=by rw[hu6];exact(hO5.kept jD).set (by omega) _
   have en3:=qO u6 V B (ys.set k (trk ys k-1)) (some ⟨fb,0,none⟩) fc hB6.book hB6.rows hB6.vars hO6.sl (by rw[List.length_set];omega);rw[List.length_set,hlen] at en3;simp only[Gg,mZ,kF,jT,jo,iF,Tryd.f6,Option.getD_some];refine pz en3 hS6 ?_;rintro a v u7 ⟨rfl,hk7⟩ hS;rw[FK (vG ha (by rw[List.length_set];exact hlen) (acj hok (by omega))),aci (by omega)] at hS;have hB7:=hB6.kept hk7;have hkw7:=hkw6.trans (hk7.mono hkw6.size);generalize aQ B (fup (trk ys) k (trk ys k-1)) B.hours.toNat 0 1=d at *;refine aU (.tuple #[.int .i64 d,.int .i64 0]) hS fun a hS=> ?_;refine aU (.int .i64 d) hS fun a hS=> ?_;refine aU (.int .i64 0) hS fun a hS=> ?_;refine aU (.int .i64 d) hS fun a hS=> ?_;refine aU (.int .i64 0) hS fun a hS=> ?_;refine lY good ?_;rw[show vI= .seq (.region 24 Gh false) .ret from rfl];refine kV good (oJ good ?_);simp only[Gh,vI,mZ,kF,jT,jo,iF,Tryd.f6,Option.getD_some];obtain⟨z1,z2,z3⟩:=hS;simp only[SlA] at z3;obtain⟨y15,y14,_⟩:=z3;have hS:Sl a 150 [(15,.int .i64 0),(14,.int .i64 d)]:=⟨z1,z2,y15,y14,trivial⟩;refine aU (.int .i64 0) hS fun a hS=> ?_;refine aU (.bool true) hS fun a hS=> ?_;refine aU (.bool true) hS fun a hS=> ?_;refine aU (.int .i64 d) hS (fun a hS=> ?_) (hw:=FM (dd:=143) rfl rfl (by rw[hS.1];decide) hS.2.2.1);refine aU (.bool true) hS (fun a hS=> ?_) (hw:=FM (dd:=143) rfl rfl (by rw[hS.1];decide) hS.2.2.2.1) (hr:=by intro τ;have h:=hS.2.2;simp only[SlA] at h;simp[go_sem,h,hne]);refine aU (.bool true) hS fun a hS=> ?_;refine aU (.bool true) hS fun a hS=> ?_;refine abA (N:=150) (i:=7) (p:=147) FI Tryd.func6 rfl rfl rfl rfl (FM (dd:=147) rfl rfl (by rw[hS.1];decide) hS.2.2.1) rfl rfl rfl rfl rfl rfl rfl rfl (by decide) (by decide) (by decide) (by decide) ⟨hS.1,hS.2.1,hS.2.2.1,trivial⟩ hB7.vars hkw7
end Go.Proofs.YtaikibfkggglgaaDoor
namespace Go.Proofs.YtaikibfkggglgaaDoor
open Go.RowKit Go.Rent Go.Tp Go.Conc Go.ChangeShapes Go.WideShapes Go.ChangeAt
theorem OI (os:Os) (started:os.Started) (H:Type) (enc:TypeId×Value->H):
  ReturnsInLeavingWide {} Tryd.checked os 6 .any (fun w args=>(Rows.rentSpareSpec.pre enc tP Tryd.f6 [] false w args/\laidMetH tP vF w)/\sizedMet enc tP Tryd.f6 (OpenSpec.ofChange Rows.rentSpareSpec) false w args)
   (Rows.rentSpareSpec.post enc tP Tryd.f6 false true false false):=by
 refine ab2 (C:=Tryd.checked) (X:=fun w _=>laidMetH tP vF w) (fun _ _ _ hh h=>h.of_heap hh) ab3 started Tryd.func6
  (ChangeSpec.witness_shaped (enc:=enc) (C:=Tryd.checked) (os:=os) (X:=fun w _=>laidMetH tP vF w) false (World.doorLaid tP 600 os) #[.agg #[.int .i64 0,.slice none 0 0,.slice none 0 0,.slice none 0 0],.slice none 0 0,.int .u8 0] 6 rfl (World.shaped_of_RefB (by kernel_rfl) (by kernel_rfl)) (by kernel_rfl) (by kernel_rfl) (by kernel_rfl) (door_met os _)) ?_
 intro W base args ds gs before hval0 hW hL;have hval: ∀(j:Nat) t v,Tryd.f6.params[j]? =some t->args[j]? =some v->Value.okWide tP W .any base t v:=hval0;have hW':=hW;obtain⟨p,q,hA0,hV,rfl,_,_⟩:=hW;have hA:DataW.TrodAll enc tP W 0 (fun _=>true) true Tryd.f6.params.toList args.toList ds p:=hA0;rw[Tryd.params6] at hA hval;obtain⟨v0,v1,v2,d0,d1,d2,p0,p1,p2,rfl,rfl,rfl,h0,h1,h2⟩:=trodAll_three hA;obtain⟨rfl,rfl⟩:=trodVars_none hV;obtain⟨V,B,rfl,hB,hR⟩:=ZC (hval 0 26 v0 rfl rfl) h0;obtain⟨sa,ps,cap,rfl,_,hl,hP,hb⟩:=ZE (hval 1 47 v1 rfl rfl) h1;obtain⟨n,rfl,rfl,rfl,hwn⟩:=open_int Tryd.underlying5 (hval 2 5 v2 rfl rfl) h2;have hn:0<=n/\n<=255:=by simpa[Lit.wf,IntKind.min,IntKind.max,IntKind.signed,IntKind.bits] using hwn
 have hv:=ab4 hL;simp only[List.append_nil] at hW';have hlt: ∀x∈p0++p1,x.block<W.heap.size:=fun x hx=>hW'.lt x hx;have hgl:=OH V B ps sa cap n (gy W) hn (hB.of_cell (nV W)) (ab6 hR) (ab5 hv) (hP.of_cell (nV W)) hb (by omega);refine abz good Tryd.func6 (x:=iF) (by rfl) (by kernel_rfl) (fun t=>⟨_,by simp[results,Tryd.results6];rfl⟩) W _ (mY (gy W)) _ (fun v w τ d d' j _ _ hj hr=> ?_) ?_
 ·obtain⟨rfl,hk⟩:=hr;refine ab8 (ds:= [d0,d1,.lit (.int .u8 n)]) (by kernel_rfl) hW' (fun W' hbl=>⟨p0++(p1++ []), ?_⟩) rfl rfl (ab7 hj hk);rw[Tryd.params6];exact trodAll_mk3 (Below.trod Oj (by kernel_rfl) (of_decide_eq_true (by kernel_rfl)) h0 hbl fun x hx=>hlt x (by simp[hx])) (Below.trod Oj (by kernel_rfl) (of_decide_eq_true (by kernel_rfl)) h1 hbl fun x hx=>hlt x (by simp[hx])) (shut_int Tryd.underlying5 hwn)
 ·rw[show Tryd.f6.ntmps-(#[V.val B,.slice sa ps.length cap,.int .u8 n]:Array Value).size=147 from by rw[Tryd.ntmps6];rfl,acn];exact hgl
theorem OJ:Rows.RentSpareSaid:=
 OpenClaim.holds_of_wide_leaving 6 Tryd.f6 rfl rfl rfl rfl rfl rfl rfl ⟨rfl,rfl,rfl,rfl,rfl⟩ rfl rfl rfl rfl rfl (by kernel_rfl) Tryd.func6 (by kernel_rfl)
  (of_decide_eq_true (by kernel_rfl)) (by unfold Func.isWrapper;first | (rw[if_pos (by decide+kernel)];kernel_rfl) | (rw[if_neg (by decide+kernel)];exact⟨rfl,rfl⟩))
  (fun os started H enc _=>OI os started H enc)
theorem spare_card:Rows.RentSpareCardSaid:=
 aco .later [.funcs,.funcs,.funcs] true (true, "72ef7cba7f7fd8f165ce5e08d99ae6adf001f8a416de6ee8962cf05e685c9f16") false
  OJ (by kernel_rfl) rentSpare_row_tie rfl ⟨rfl,rfl⟩ (by kernel_rfl) rfl
  (fun f fn hf hfn=>by
   obtain rfl:f=6:=Option.some.inj ((show tP.funcNamed "baudot/baudotlaw09.RentSpare" =some 6 by kernel_rfl).symm.trans hf) |>.symm;obtain rfl:fn=Tryd.f6:=(Option.some.inj (Tryd.func6.symm.trans hfn)).symm;exact⟨by kernel_rfl,fun j t ht=>by
    rw[Tryd.params6] at ht
    match j,ht with
    | 0,ht=>cases ht;exact(show tP.wantsStandIn 26=false by kernel_rfl)
    | 1,ht=>cases ht;exact(show tP.wantsStandIn 47=false by kernel_rfl)
    | 2,ht=>cases ht;exact(show tP.wantsStandIn 5=false by kernel_rfl)⟩)
  (by kernel_rfl)
#print axioms spare_card
end Go.Proofs.YtaikibfkggglgaaDoor
