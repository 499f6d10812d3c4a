/- A part of the proof of a law; no conditions of its own. -/
import Derived.Test.YtfiiffnbggnkfaaDoorAv26
open Go.IntKind renaming i64→qi
open Go.Value renaming int→iN, slice→sL
set_option maxRecDepth 100000
open Nat renaming le_refl→nR
open List renaming getElem?_eq_getElem→lG
open List renaming getElem?_eq_some_iff→lS
open List renaming getD_eq_getElem?_getD→lD
set_option maxHeartbeats 4000000
namespace Go.Proofs.YtfiiffnbggnkfaaDoor
open Go.RowKit Go.Rent Go.Tp Go.Conc
theorem FN (B:Bk) (a b:Int): ∀n i,0<=B.directFrom a b n i->B.one (B.directFrom a b n i).toNat=a/\B.two (B.directFrom a b n i).toNat=b
 | 0,i,h=>by unfold Bk.directFrom at h;omega
 |n+1,i,h=>by
  unfold Bk.directFrom at h ⊢;by_cases e:B.one i=a/\B.two i=b
  ·rw[if_pos e,Int.toNat_natCast];exact e
  ·rw[if_neg e] at h ⊢; exact FN B a b n (i+1) h
theorem FP {B:Bk} {a b:Int} (h:0<=B.direct a b):B.one (B.direct a b).toNat=a/\B.two (B.direct a b).toNat=b:=FN B a b _ _ h
theorem FQ {nt hours:Int}: ∀(l:List Pr) (S:List (Int×Int)),fP nt hours S l=0->(∀x∈l,bZ S x.one x.two=false)/\ ∀(i j:Nat) (x y:Pr),i<j->l[i]? =some x->l[j]? =some y-> ¬(x.one=y.one/\x.two=y.two)
 | [],S,_=>⟨fun x hx=>(by cases hx),fun i j x y _ h=>(by cases h)⟩
 |p::l,S,h=>by
  unfold fP at h
  split at h
  ·cases h
  split at h
  ·cases h
  split at h
  ·cases h
  rename_i hm
  split at h
  ·split at h
   ·cases h
   obtain⟨h1,h2⟩:=FQ l _ h;have hs: ∀x∈l,bZ S x.one x.two=false/\ ¬(p.one=x.one/\p.two=x.two):=fun x hx=>by
    have:=h1 x hx;rw[Ce,Bool.or_eq_false_iff] at this;refine⟨this.2,fun⟨e1,e2⟩=> ?_⟩;have h3:=this.1;rw[e1,e2] at h3;simp at h3
   refine⟨fun x hx=> ?_,fun i j x y hij hx hy=> ?_⟩
   ·rcases List.mem_cons.1 hx with e |e
    ·subst e;simpa using hm
    ·exact(hs x e).1
   ·cases j with
    |zero=>omega
    |succ j=>
     rw[List.getElem?_cons_succ] at hy
     cases i with
     |zero=>cases hx;exact(hs y (List.mem_of_getElem? hy)).2
     |succ i=>exact h2 i j x y (by omega) (by simpa using hx) hy
  ·cases h
theorem Ol {B:Bk} (h:B.alarm=0) {i j:Nat} (hij:i<j) (hj:j<B.pairs.length): ¬(B.pone i=B.pone j/\B.ptwo i=B.ptwo j):=by
 obtain⟨_,_,_,h3⟩:=GX h;unfold dR at h3
 split at h3
 ·cases h3
 have hx:B.pairs[i]? =some B.pairs[i]:=lG (by omega);have hy:B.pairs[j]? =some B.pairs[j]:=lG hj;have:=(FQ _ _ h3).2 i j _ _ hij hx hy;unfold Bk.pone Bk.ptwo;rw[hx,hy];exact this
theorem Om (B:Bk) (T:Nat->Int) (n a b:Int) (out:Nat->Int) {k:Nat} (h1:k≠(a-1).toNat) (h2:k≠(b-1).toNat):B.go T n a b out k=if a≠0/\B.direct a b=k then min n (T k) else out k:=by
 unfold Bk.go;by_cases ha:a=0
 ·rw[if_pos ha,if_neg (by omega)];exact dQ _ _ h2
 ·rw[if_neg ha];rw[dQ _ _ h2,dQ _ _ h1];by_cases hk:0<=B.direct a b
  ·simp only[if_pos hk];by_cases e:B.direct a b=k
   ·rw[if_pos ⟨ha,e⟩,e,Int.toNat_natCast];simp
   ·rw[if_neg (fun h=>e h.2)];exact dQ _ _ (by omega)
  ·simp only[if_neg hk];rw[if_neg (by omega)]
theorem BN (B:Bk) (T T' c:Nat->Int) (h: ∀i,i<B.pairs.length->B.pone i≠0->0<=B.direct (B.pone i) (B.ptwo i)->min (c i) (T' (B.direct (B.pone i) (B.ptwo i)).toNat)=min (c i) (T (B.direct (B.pone i) (B.ptwo i)).toNat)): ∀n,n<=B.pairs.length->B.loadTo T' c n=B.loadTo T c n
 | 0,_=>rfl
 |n+1,hn=>by
  unfold Bk.loadTo;rw[BN B T T' c h n (by omega)];unfold Bk.go;by_cases ha:B.pone n=0
  ·rw[if_pos ha,if_pos ha]
  ·rw[if_neg ha,if_neg ha];by_cases hk:0<=B.direct (B.pone n) (B.ptwo n)
   ·simp only[if_pos hk];rw[h n (by omega) ha hk]
   ·simp only[if_neg hk]
theorem Oo (B:Bk) (hB:B.Fine) (T:Nat->Int) {n n' a b:Int} {out out':Nat->Int} (hn:n<=n') (h: ∀j,j<B.spokes->out j<=out' j) (hab:a≠0->1<=a/\a<b):
  ∀j,j<B.spokes->B.go T n a b out j<=B.go T n' a b out' j:=by
 intro j hj;have hj':=h j hj;unfold Bk.go;by_cases ha:a=0
 ·rw[if_pos ha,if_pos ha];unfold fup
  split
  ·rename_i e;rw[<-e];omega
  ·exact hj'
 ·rw[if_neg ha,if_neg ha];have hab:=hab ha;have hne:(a-1).toNat≠(b-1).toNat:=by omega
  by_cases hk:0<=B.direct a b
  ·simp only[if_pos hk];have hkb:=pF B hB a b;have hkk:B.spokes<=(B.direct a b).toNat:=by omega
   generalize (B.direct a b).toNat=k at *;have hjk:j≠k:=by omega
   unfold fup;simp only[if_neg (Ne.symm hne)];by_cases e1:j=(b-1).toNat
   ·rw[if_pos e1,if_pos e1,<-e1,if_neg hjk,if_neg hjk];omega
   ·rw[if_neg e1,if_neg e1];by_cases e2:j=(a-1).toNat
    ·rw[if_pos e2,if_pos e2,<-e2,if_neg hjk,if_neg hjk];omega
    ·rw[if_neg e2,if_neg e2,if_neg hjk,if_neg hjk];exact hj'
  ·simp only[if_neg hk];unfold fup;simp only[if_neg (Ne.symm hne)];by_cases e1:j=(b-1).toNat
   ·rw[if_pos e1,if_pos e1,<-e1];omega
   ·rw[if_neg e1,if_neg e1];by_cases e2:j=(a-1).toNat
    ·rw[if_pos e2,if_pos e2,<-e2];omega
    ·rw[if_neg e2,if_neg e2];exact hj'
theorem FU (B:Bk) (hB:B.Fine) (T c c':Nat->Int) (hc: ∀i,i<B.pairs.length->c i<=c' i): ∀n,n<=B.pairs.length-> ∀j,j<B.spokes->B.loadTo T c n j<=B.loadTo T c' n j
 | 0,_,_,_=>Int.le_refl _
 |n+1,hn,j,hj=>by
  unfold Bk.loadTo;have he:=hB.ends n (by omega);exact Oo B hB T (hc n (by omega)) (FU B hB T c c' hc n (by omega)) (fun h=>by omega) j hj
theorem FV {B:Bk} (hB:B.Fine) (most:Bool) (h i:Nat):B.call most h i<=B.call true h i:=by
 unfold Bk.call
 cases e:B.pairs[i]? with
 |none=>exact Int.le_refl _
 |some p=>
  simp only[Option.bind_some]
  cases e2:p.calls[h]? with
  |none=>exact Int.le_refl _
  |some x=>
   have:=(hB.calls i p e).2 h x e2
   cases most<;>simp<;>omega
theorem Oq {B:Bk} (hB:B.Fine) (T:Nat->Int) (most:Bool) (h:Nat) {j:Nat} (hj:j<B.spokes):B.inn T most h j<=B.inn T true h j:=
 FU B hB T _ _ (fun i _=>FV hB most h i) _ (nR _) j hj
theorem BO (B:Bk) (T:Nat->Int) (j:Nat): ∀n h,h<n->B.inn T true h j<=bW B T n j
 | 0,h,hh=>by omega
 |n+1,h,hh=>by
  unfold bW;by_cases e:h=n
  ·subst e;omega
  ·have:=BO B T j n h (by omega);omega
theorem FW (B:Bk) (T:Nat->Int) (j:Nat) {m:Int} (hm:0<=m): ∀n,(∀h,h<n->B.inn T true h j<=m)->bW B T n j<=m
 | 0,_=>hm
 |n+1,hh=>by
  unfold bW;have h1:=FW B T j hm n fun h a=>hh h (by omega);have h2:=hh n (by omega);omega
theorem rM (B:Bk) (T:Nat->Int) (j:Nat): ∀n,0<=bW B T n j
 | 0=>Int.le_refl _
 |n+1=>by unfold bW;have:=rM B T j n;omega
theorem FY (B:Bk) {T T':Nat->Int} (j:Nat): ∀n,(∀h,h<n->B.inn T' true h j=B.inn T true h j)->bW B T' n j=bW B T n j
 | 0,_=>rfl
 |n+1,hh=>by
  unfold bW;rw[FY B j n fun h a=>hh h (by omega),hh n (by omega)]
def adr (B:Bk) (T:Nat->Int) (a b:Int):Int:=if 0<=B.direct a b then T (B.direct a b).toNat else 0
def incr (B:Bk) (T:Nat->Int) (n a b:Int) (k:Nat):Int:=
 if a=0 then (if (k:Int)=b-1 then n else 0)
 else (if B.direct a b=k then min n (adr B T a b) else 0)+if (k:Int)=a-1\/(k:Int)=b-1 then n-min n (adr B T a b) else 0
def adu (B:Bk) (T:Nat->Int) (c:Nat->Int) (k:Nat):Nat->Int
 | 0=>0
 |i+1=>adu B T c k i+incr B T (c i) (B.pone i) (B.ptwo i) k
theorem adV {B:Bk} (hB:B.Fine) (T c:Nat->Int) {k:Nat} (hk:B.spokes<=k): ∀n,n<=B.pairs.length->(∀i,i<n->B.pone i≠0->B.direct (B.pone i) (B.ptwo i)≠k)->B.loadTo T c n k=0
 | 0,_,_=>rfl
 |n+1,hn,h=>by
  have he:=hB.ends n (by omega);have ht:B.spokes=B.towns.length-1:=rfl;unfold Bk.loadTo;rw[Om B T _ _ _ _ (by omega) (by omega),if_neg (fun⟨h1,h2⟩=>h n (by omega) h1 h2)];exact adV hB T c hk n (by omega) fun i hi=>h i (by omega)
theorem aec {B:Bk} (hB:B.Fine) (T:Nat->Int) {n a b:Int} (hn:0<=n) (out:Nat->Int) (k:Nat) (hab:0<=a/\a<b/\b<B.towns.length) (h0:a≠0->B.direct a b=k->out k=0):B.go T n a b out k=out k+incr B T n a b k:=by
 have hd:=pF B hB a b;have ht:B.spokes=B.towns.length-1:=rfl;unfold Bk.go incr adr;by_cases ha:a=0
 ·rw[if_pos ha,if_pos ha];by_cases e:k=(b-1).toNat
  ·rw[<-e,BZ,if_pos (by omega)]
  ·rw[dQ _ _ e,if_neg (by omega)];omega
 ·rw[if_neg ha,if_neg ha];by_cases hk:0<=B.direct a b
  ·simp only[if_pos hk];generalize min n (T (B.direct a b).toNat)=m at *;by_cases e1:k=(b-1).toNat
   ·rw[<-e1,BZ,dQ _ _ (by omega),dQ _ _ (by omega),if_neg (by omega),if_pos (by omega)];omega
   ·rw[dQ _ _ e1];by_cases e2:k=(a-1).toNat
    ·rw[<-e2,BZ,dQ _ _ (by omega),if_neg (by omega),if_pos (by omega)];omega
    ·rw[dQ _ _ e2];by_cases e3:k=(B.direct a b).toNat
     ·rw[<-e3,BZ,h0 ha (by omega),if_pos (by omega),if_neg (by omega)];omega
     ·rw[dQ _ _ e3,if_neg (by omega),if_neg (by omega)];omega
  ·simp only[if_neg hk];rw[Int.min_eq_right hn];by_cases e1:k=(b-1).toNat
   ·rw[<-e1,BZ,dQ _ _ (by omega),if_pos (show (k:Int)=a-1\/(k:Int)=b-1 by omega)]
    split<;>omega
   ·rw[dQ _ _ e1];by_cases e2:k=(a-1).toNat
    ·rw[<-e2,BZ,if_pos (show (k:Int)=a-1\/(k:Int)=b-1 by omega)]
     split<;>omega
    ·rw[dQ _ _ e2,if_neg (show ¬((k:Int)=a-1\/(k:Int)=b-1) by omega)]
     split<;>omega
theorem adW {B:Bk} (hB:B.Fine) (hA:B.alarm=0) (T c:Nat->Int) (hc: ∀i,i<B.pairs.length->0<=c i) (k:Nat): ∀n,n<=B.pairs.length->adu B T c k n=B.loadTo T c n k
 | 0,_=>rfl
 |n+1,hn=>by
  have he:=hB.ends n (by omega);have ht:B.spokes=B.towns.length-1:=rfl;unfold adu Bk.loadTo;rw[adW hB hA T c hc k n (by omega),aec hB T (hc n (by omega)) _ k ⟨he.1,he.2.1,he.2.2⟩ fun ha hd=> ?_];have hdb:=pF B hB (B.pone n) (B.ptwo n);refine adV hB T c (by omega) n (by omega) fun i hi h1 h2=> ?_;have d1:=FP (B:=B) (a:=B.pone i) (b:=B.ptwo i) (by omega);have d2:=FP (B:=B) (a:=B.pone n) (b:=B.ptwo n) (by omega);rw[h2] at d1;rw[hd] at d2;exact Ol hA hi (by omega) ⟨d1.1.symm.trans d2.1,d1.2.symm.trans d2.2⟩
theorem aeZ {B:Bk} {T:Nat->Int} (hT: ∀k,0<=T k) {n m:Int} (h:n<=m) (a b:Int) (k:Nat):incr B T n a b k<=incr B T m a b k:=by
 have:0<=adr B T a b:=by unfold adr;split;exact hT _;omega
 unfold incr
 split<;>split<;>(try split)<;>omega
theorem aeF {B:Bk} {T c d:Nat->Int} (hT: ∀k,0<=T k) (h: ∀i,i<B.pairs.length->c i<=d i) (k:Nat): ∀n,n<=B.pairs.length->adu B T c k n<=adu B T d k n
 | 0,_=>Int.le_refl _
 |n+1,hn=>by
  have h1:=aeF hT h k n (by omega);have h2:=aeZ (B:=B) hT (h n (by omega)) (B.pone n) (B.ptwo n) k;unfold adu;omega
theorem aeE {B:Bk} (hA:B.alarm=0) (T:Nat->Int) (most:Bool) (h k:Nat):B.inn T most h k=adu B T (B.call most h) k B.pairs.length:=
 (adW (gY hA).fine hA T _ (fun i _=>(Gj B (gY hA).fine most h i).1) k _ (nR _)).symm
theorem aeK {B:Bk} (hB:B.Fine) (h i:Nat):B.call false h i<=B.call true h i:=by
 unfold Bk.call
 cases hp:B.pairs[i]? with
 |none=>simp
 |some p=>
  simp only[Option.bind_some]
  cases hc:p.calls[h]? with
  |none=>simp
  |some x=>
   have:=(hB.calls i p hp).2 h x hc;simp;omega
theorem ae0 {B:Bk} (hA:B.alarm=0) {T:Nat->Int} (hT: ∀k,0<=T k) (h k:Nat):B.inn T false h k<=B.inn T true h k:=by
 rw[aeE hA,aeE hA];exact aeF hT (fun i _=>aeK (gY hA).fine h i) k _ (nR _)
theorem ae1 {B:Bk} (hA:B.alarm=0) {T:Nat->Int} (hT: ∀k,0<=T k) (h:Nat) (hl:B.lackIn T true h<0):B.lackIn T false h<0:=by
 rw[vC] at hl ⊢;intro j hj;have h1:=hl j hj;have h2:=ae0 hA hT h j;omega
theorem ae2 {B:Bk} (hA:B.alarm=0) {T:Nat->Int} (hT: ∀k,0<=T k):aQ B T B.hours.toNat 0 1=1↔ ∀h,h<B.hours.toNat->B.lackIn T true h<0:=by
 rw[Og];exact⟨fun h k hk=>(h.2 k (Nat.zero_le _) (by omega)).2,fun h=>⟨rfl,fun k _ hk=>⟨ae1 hA hT k (h k (by omega)),h k (by omega)⟩⟩⟩
theorem ad2 (a b:Int) (x y:List Int):cmpL (a::x) (b::y)<0↔a<b\/a=b/\cmpL x y<0:=by
 simp only[cmpL,mF];by_cases h1:a<b
 ·simp[h1]
 ·by_cases h2:b<a
  ·have:a≠b:=by omega
   simp[h1,h2,this]
  ·have:a=b:=by omega
   simp[this]
theorem adM: ∀(x y z:List Int),cmpL x y<0->cmpL y z<0->cmpL x z<0
 |_,[],[],_,h=>by simp[cmpL] at h
 |_,_::_,[],_,h=>by simp[cmpL] at h
 | [],[],_::_,h,_=>by simp[cmpL] at h
 |_::_,[],_::_,h,_=>by simp[cmpL] at h
 | [],_::_,_::_,_,_=>by simp[cmpL]
 |a::x,b::y,c::z,h1,h2=>by
  rw[ad2] at *
  rcases h1 with h1 |⟨h1,k1⟩
  ·rcases h2 with h2 |⟨h2,k2⟩
   ·exact .inl (by omega)
   ·exact .inl (by omega)
  ·rcases h2 with h2 |⟨h2,k2⟩
   ·exact .inl (by omega)
   ·exact .inr ⟨by omega,adM x y z k1 k2⟩
theorem adN: ∀l:List Int,cmpL l l=0
 | []=>rfl
 |a::l=>by simp[cmpL,mF,adN l]
theorem ady {x y z:List Int×Int} (h1:qR x y<0) (h2:qR y z<0):qR x z<0:=by
 unfold qR at *;have:=adM x.1 y.1 z.1
 split at h1<;>split at h2<;>split
 all_goals first |exact this h1 h2 |omega
theorem adB (x:List Int×Int): ¬qR x x<0:=by
 unfold qR;rw[if_pos rfl,adN];omega
theorem adH: ∀(l:List (List Int×Int)) (c b:List Int×Int),l.foldl least1 (some c)=some b->(b=c\/(qR b c<0/\b∈l))/\ ∀x∈l,¬qR x b<0
 | [],c,b,h=>⟨.inl (by simpa using h.symm),fun x hx=>(by cases hx)⟩
 |y::l,c,b,h=>by
  rw[List.foldl_cons] at h;unfold least1 at h;dsimp only at h;by_cases hc:qR y c<0
  ·rw[if_pos hc] at h;obtain⟨h1,h2⟩:=adH l y b h
   rcases h1 with e |⟨e,hm⟩
   ·subst e;refine⟨.inr ⟨hc,List.mem_cons_self ..⟩,fun x hx=> ?_⟩
    rcases List.mem_cons.1 hx with e |e
    ·subst e;exact adB _
    ·exact h2 x e
   ·refine⟨.inr ⟨ady e hc,List.mem_cons_of_mem _ hm⟩,fun x hx=> ?_⟩
    rcases List.mem_cons.1 hx with e2 |e2
    ·subst e2;exact fun h=>adB _ (ady h e)
    ·exact h2 x e2
  ·rw[if_neg hc] at h;obtain⟨h1,h2⟩:=adH l c b h;refine⟨h1.imp id fun⟨a,b⟩=>⟨a,List.mem_cons_of_mem _ b⟩,fun x hx=> ?_⟩
   rcases List.mem_cons.1 hx with e2 |e2
   ·subst e2
    rcases h1 with e |⟨e,_⟩
    ·subst e;exact hc
    ·exact fun h=>hc (ady h e)
   ·exact h2 x e2
theorem ad3: ∀{l:List (List Int×Int)} {b:List Int×Int},iC l=some b->b∈l/\ ∀x∈l,¬qR x b<0
 | [],b,h=>by cases h
 |y::l,b,h=>by
  obtain⟨h1,h2⟩:=adH l y b h
  rcases h1 with e |⟨e,hm⟩
  ·subst e;refine⟨List.mem_cons_self .., fun x hx=> ?_⟩
   rcases List.mem_cons.1 hx with e |e
   ·subst e;exact adB _
   ·exact h2 x e
  ·refine⟨List.mem_cons_of_mem _ hm,fun x hx=> ?_⟩
   rcases List.mem_cons.1 hx with e2 |e2
   ·subst e2;exact fun h=>adB _ (ady h e)
   ·exact h2 x e2
theorem adC (may:Int->Bool): ∀(m:Nat) (t x:List Int),x∈moreL may m t↔ ∃d:List Int,x=t++d/\d.length=m/\ ∀(i:Nat) (y:Int),d[i]? =some y->0<=y/\y<=iY may (t.length+i)
 | 0,t,x=>by
  unfold moreL;rw[List.mem_singleton];refine⟨fun h=>⟨[],by simpa using h,rfl,fun i y h=>by simp at h⟩,fun⟨d,h1,h2,_⟩=> ?_⟩;rw[h1,List.length_eq_zero_iff.1 h2,List.append_nil]
 |m+1,t,x=>by
  unfold moreL;rw[List.mem_flatMap];constructor
  ·rintro⟨n,hn,hx⟩;obtain⟨d,h1,h2,h3⟩:=(adC may m _ x).1 hx;refine⟨(n:Int)::d,by rw[h1];simp,by simp[h2],fun i y hy=> ?_⟩
   cases i with
   |zero=>
    have:=List.mem_range.1 hn;simp at hy;simp only[Nat.add_zero];omega
   |succ i=>
    have:=h3 i y (by simpa using hy);rwa [List.length_append,List.length_singleton,Nat.add_assoc,Nat.add_comm 1 i] at this
  ·rintro⟨d,h1,h2,h3⟩
   cases d with
   |nil=>cases h2
   |cons a d=>
    have h0:=h3 0 a rfl;rw[Nat.add_zero] at h0;refine⟨a.toNat,List.mem_range.2 (by omega),(adC may m _ x).2 ⟨d, ?_,by simpa using h2,fun i y hy=> ?_⟩⟩
    ·rw[h1,Int.toNat_of_nonneg h0.1];simp
    ·have:=h3 (i+1) y (by simpa using hy);rwa [List.length_append,List.length_singleton,Nat.add_assoc,Nat.add_comm 1 i]
theorem adO (B:Bk) (may:Int->Bool):aC B may∈oP B may/\ ∀x∈oP B may,¬qR x (aC B may)<0:=by
 have hne:oP B may≠ []:=by
  unfold oP;intro h;exact MP may _ _ (List.map_eq_nil_iff.1 h)
 obtain⟨b,hb⟩:=ZH _ hne;have:aC B may=b:=by unfold aC;rw[hb];rfl
 rw[this];exact ad3 hb
theorem aer {x y:List Int×Int} (h: ¬qR x y<0):y.2<=x.2:=by
 unfold qR at h
 split at h<;>omega
def Dir (B:Bk) (may:Int->Bool) (t:List Int):Prop:=t∈moreL may (B.links.length-B.spokes) (List.replicate B.spokes 0)
theorem ad4 {B:Bk} (hl:B.spokes<=B.links.length) {may:Int->Bool} {t:List Int} (h:Dir B may t):t.length=B.links.length/\(∀x∈t,0<=x/\x<=5)/\(∀k,k<B.spokes->trk t k=0)/\ ∀k,B.spokes<=k->trk t k<=iY may k:=by
 obtain⟨d,h1,h2,h3⟩:=(adC may _ _ t).1 h;have htop: ∀k,iY may k<=5:=fun k=>by unfold iY;split<;>omega
 refine⟨by rw[h1,List.length_append,List.length_replicate,h2];omega,fun x hx=> ?_,fun k hk=> ?_,fun k hk=> ?_⟩
 ·rw[h1] at hx
  rcases List.mem_append.1 hx with e |e
  ·rw[(List.mem_replicate.1 e).2];omega
  ·obtain⟨i,hi,rfl⟩:=List.getElem_of_mem e;have:=h3 i _ (lG hi);have:=htop ((List.replicate B.spokes (0 :Int)).length+i);omega
 ·unfold trk;rw[h1,lD,List.getElem?_append_left (by simpa using hk),List.getElem?_replicate,if_pos hk];rfl
 ·unfold trk;rw[h1,lD,List.getElem?_append_right (by simpa using hk),List.length_replicate]
  cases e:d[k-B.spokes]? with
  |none=>simp
  |some y=>
   have:=h3 _ y e;rw[List.length_replicate,show B.spokes+(k-B.spokes)=k by omega] at this;exact this.2
theorem adP {B:Bk} {may:Int->Bool} {x:List Int×Int}:x∈oP B may↔ ∃t,Dir B may t/\iy B t=x:=List.mem_map
theorem adD {B:Bk} {t:List Int} (k:Nat):trk (jC B t) k=if k<B.spokes then aZ B (trk t) k else trk t k:=by
 unfold jC trk;rw[lD];by_cases h:k<B.spokes
 ·rw[if_pos h,List.getElem?_append_left (by rw[EM];exact h)];unfold ku;rw[List.getElem?_map,List.getElem?_range h];rfl
 ·rw[if_neg h,List.getElem?_append_right (by rw[EM];omega),EM,List.getElem?_drop,lD,show B.spokes+(k-B.spokes)=k by omega]
theorem adQ {B:Bk} (hB:B.Fine) {T T':Nat->Int} (h: ∀k,B.spokes<=k->k<B.links.length->min 5 (T' k)=min 5 (T k)) (most:Bool) (hr:Nat):B.inn T' most hr=B.inn T most hr:=by
 refine BN B T T' _ (fun i hi h0 hk=> ?_) _ (nR _);have hd:=pF B hB (B.pone i) (B.ptwo i);have hc:=Gj B hB most hr i;have:=h (B.direct (B.pone i) (B.ptwo i)).toNat (by omega) (by omega);omega
theorem ad5 {B:Bk} (hB:B.Fine) {T T':Nat->Int} (h: ∀k,B.spokes<=k->k<B.links.length->min 5 (T' k)=min 5 (T k)) (j:Nat):aZ B T' j=aZ B T j:=
 FY B j _ fun _ _=>congrFun (adQ hB h true _) j
theorem ad6 {B:Bk} (hB:B.Fine) {t:List Int}:aQ B (trk (jC B t)) B.hours.toNat 0 1=1:=by
 rw[Og];have hs: ∀m h,B.inn (trk (jC B t)) m h=B.inn (trk t) m h:=fun m h=>adQ hB (fun k h1 h2=>by rw[adD,if_neg (by omega)]) m h;refine⟨rfl,fun h _ hh=> ?_⟩;have key: ∀m,B.lackIn (trk (jC B t)) m h<0:=fun m=>by
  rw[vC,hs];intro j hj;rw[adD,if_pos hj];have h1:=BO B (trk t) j _ h (show h<B.hours.toNat by omega);have h2:=Oq hB (trk t) m h hj;unfold aZ;omega
 exact⟨key false,key true⟩
theorem adI: ∀(x y:List Int),x.length=y.length->(∀k,trk x k<=trk y k)->cmpL x y<=0/\(x≠y->cmpL x y<0)
 | [],[],_,_=>⟨by simp[cmpL],fun h=>absurd rfl h⟩
 | [],_::_,h,_=>by cases h
 |_::_,[],h,_=>by cases h
 |a::x,b::y,h,hk=>by
  have h0:a<=b:=hk 0;obtain⟨h1,h2⟩:=adI x y (by simpa using h) fun k=>hk (k+1);simp only[cmpL,mF];by_cases e:a<b
  ·simp[e]
  ·have e2:a=b:=by omega
   subst e2;simp only[Int.lt_irrefl,if_false,if_true,List.cons.injEq,true_and,ne_eq];exact⟨h1,h2⟩
def tried (B:Bk) (xs:List Int):List Int:=List.replicate B.spokes 0++(xs.drop B.spokes).map fun y=>min 5 y
theorem adR {B:Bk} {xs:List Int} (k:Nat):trk (tried B xs) k=if k<B.spokes then 0 else min 5 (trk xs k):=by
 unfold tried trk;rw[lD,lD];by_cases h:k<B.spokes
 ·rw[if_pos h,List.getElem?_append_left (by simpa using h),List.getElem?_replicate,if_pos h];rfl
 ·rw[if_neg h,List.getElem?_append_right (by simpa using h),List.length_replicate,List.getElem?_map,List.getElem?_drop,show B.spokes+(k-B.spokes)=k by omega]
  cases xs[k]? with
  |none=>rfl
  |some y=>rfl
theorem ad7 {B:Bk} {xs:List Int} (hx:xs.length=B.links.length) (hb:dN xs=false) {may:Int->Bool} (hm: ∀k,B.spokes<=k->may (k:Int)=false->trk xs k=0):Dir B may (tried B xs):=by
 refine(adC may _ _ _).2 ⟨_,rfl,by rw[List.length_map,List.length_drop,hx],fun i y hy=> ?_⟩;rw[List.getElem?_map,List.getElem?_drop] at hy;rw[List.length_replicate];have hp:=lZ hb (B.spokes+i);have hm':=hm (B.spokes+i) (by omega);have e:trk xs (B.spokes+i)=(xs[B.spokes+i]?).getD 0:=by unfold trk;rw[lD]
 rw[e] at hp hm'
 cases e2:xs[B.spokes+i]? with
 |none=>rw[e2] at hy;cases hy
 |some z=>
  rw[e2] at hy hp hm';simp only[Option.map_some,Option.some.injEq,Option.getD_some] at hy hp hm';subst hy;unfold iY
  split
  ·omega
  ·rename_i hf;have:=hm' (Bool.eq_false_iff.2 hf);omega
def adt (B:Bk) (xs:List Int):Int:=fZ B (trk xs) B.links.length
theorem adJ {B:Bk} (hl:B.spokes<=B.links.length) {t:List Int} (ht:t.length=B.links.length):(iy B t).2=adt B (jC B t):=by
 unfold iy adt;dsimp only;rw[MS ht hl]
theorem ad8 {B:Bk} (hB:B.Fine) {xs:List Int} (hx:xs.length=B.links.length) (hb:dN xs=false) (hc:aQ B (trk xs) B.hours.toNat 0 1=1) (k:Nat):trk (jC B (tried B xs)) k<=trk xs k:=by
 have htl:(tried B xs).length=B.links.length:=by
  unfold tried;rw[List.length_append,List.length_replicate,List.length_map,List.length_drop,hx];have:=hB.links.1;omega
 rw[adD];have hp:=lZ hb k;by_cases h:k<B.spokes
 ·rw[if_pos h,ad5 hB (T:=trk xs) fun k h1 _=>by rw[adR,if_neg (by omega)];omega];rw[Og] at hc;exact FW B (trk xs) k hp.1 _ fun h' hh=>(vC B (trk xs) true h').1 (hc.2 h' (Nat.zero_le _) (by omega)).2 k h
 ·rw[if_neg h,adR,if_neg h];omega
theorem ad9 {B:Bk} (hB:B.Fine) {xs:List Int} (hx:xs.length=B.links.length):(tried B xs).length=B.links.length:=by
 unfold tried;rw[List.length_append,List.length_replicate,List.length_map,List.length_drop,hx];have:=hB.links.1;omega
theorem adS {B:Bk} (hG:Good B) {may:Int->Bool} {xs:List Int} (hx:xs.length=B.links.length) (hb:dN xs=false) (hm: ∀k,B.spokes<=k->may (k:Int)=false->trk xs k=0) (hc:aQ B (trk xs) B.hours.toNat 0 1=1): ¬qR (xs,adt B xs) (aC B may)<0:=by
 have hB:=hG.fine;have hd:=ad7 hx hb hm;have htl:=ad9 hB hx;have hle:=ad8 hB hx hb hc;have hmin:=(adO B may).2 _ (adP.2 ⟨_,hd,rfl⟩);have hcost:(iy B (tried B xs)).2<=adt B xs:=by
  rw[adJ hB.links.1 htl];exact abZ hG hle _
 intro h;by_cases e:jC B (tried B xs)=xs
 ·refine hmin ?_;have:iy B (tried B xs)=(xs,adt B xs):=by
   have h2:=adJ hB.links.1 htl;rw[e] at h2;exact Prod.ext e h2
  rwa [this]
 ·refine hmin (ady ?_ h);have hcm:=(adI _ _ (by rw[MS htl hB.links.1,hx]) hle).2 e;unfold qR
  split
  ·exact hcm
  ·dsimp only at *; omega
theorem aea {B:Bk} (hG:Good B) (may:Int->Bool): ∃t,Dir B may t/\t.length=B.links.length/\(∀x∈t,0<=x/\x<=5)/\(aC B may).1=jC B t/\(aC B may).2=adt B (jC B t):=by
 obtain⟨t,hd,he⟩:=adP.1 (adO B may).1;obtain⟨h1,h2,_⟩:=ad4 hG.fine.links.1 hd;exact⟨t,hd,h1,h2,by rw[<-he];rfl,by rw[<-he];exact adJ hG.fine.links.1 h1⟩
theorem adE {xs:List Int} {k:Nat} (h:k<xs.length):xs[k]? =some (trk xs k):=by
 rw[lG h];unfold trk;rw[lD,lG h];rfl
def adw (B:Bk) (k o i:Nat):Prop:=(B.pone i=k+1/\B.ptwo i=o)\/(B.ptwo i=k+1/\B.pone i=o)
open Classical in
noncomputable def met (B:Bk) (k o n:Nat):Int:=if ∃i,i<n/\adw B k o i then 1 else 0
theorem ads (B:Bk) (k o n:Nat):0<=met B k o n/\met B k o n<=1:=by unfold met;split<;>omega
theorem adF (B:Bk) (k o n:Nat):met B k o n<=met B k o (n+1):=by
 unfold met
 split
 ·rename_i h;obtain⟨i,h1,h2⟩:=h;rw[if_pos ⟨i,by omega,h2⟩];omega
 ·split<;>omega
theorem aee {B:Bk} (hB:B.Fine) (hA:B.alarm=0) {k o n:Nat} (hn:n<B.pairs.length) (h:adw B k o n):met B k o n=0/\met B k o (n+1)=1:=by
 have h1: ¬ ∃i,i<n/\adw B k o i:=by
  rintro⟨i,hi,h2⟩;have e1:=hB.ends n hn;have e2:=hB.ends i (by omega);refine Ol hA hi hn ?_;unfold adw at h h2;omega
 have h3: ∃i,i<n+1/\adw B k o i:=⟨n,by omega,h⟩;unfold met;rw[if_neg h1,if_pos h3];exact⟨rfl,rfl⟩
theorem adY {B:Bk} (hB:B.Fine) (hA:B.alarm=0) {T c:Nat->Int} (hT: ∀k,0<=T k) (hc: ∀i,i<B.pairs.length->0<=c i/\c i<=5) {k:Nat} (hk:k<B.spokes): ∀n,n<=B.pairs.length->adu B T c k n<=5*((if k+1=0 then 0 else met B k 0 n)+(if k+1=1 then 0 else met B k 1 n)+(if k+1=2 then 0 else met B k 2 n)+if k+1=3 then 0 else met B k 3 n)
 | 0,_=>by
  unfold adu;have h0:=ads B k 0 0;have h1:=ads B k 1 0;have h2:=ads B k 2 0;have h3:=ads B k 3 0
  split<;>split<;>split<;>split<;>omega
 |n+1,hn=>by
  have ih:=adY hB hA hT hc hk n (by omega);have he:=hB.ends n (by omega);have hcn:=hc n (by omega);have ht:=hB.towns;have hs:B.spokes=B.towns.length-1:=rfl;have hd:=pF B hB (B.pone n) (B.ptwo n);have hf:0<=adr B T (B.pone n) (B.ptwo n):=by unfold adr;split;exact hT _;omega
  have m0:=adF B k 0 n;have m1:=adF B k 1 n;have m2:=adF B k 2 n;have m3:=adF B k 3 n;have hinc:incr B T (c n) (B.pone n) (B.ptwo n) k<=if B.pone n=k+1\/B.ptwo n=k+1 then 5 else 0:=by
   unfold incr;by_cases ha:B.pone n=0
   ·rw[if_pos ha];split<;>split<;>omega
   ·rw[if_neg ha,if_neg (show ¬B.direct (B.pone n) (B.ptwo n)=k by omega)]
    split<;>split<;>omega
  unfold adu;by_cases hm:B.pone n=k+1\/B.ptwo n=k+1
  ·rw[if_pos hm] at hinc;obtain⟨o,ho,ho2,ho3⟩: ∃o:Nat,adw B k o n/\o<4/\o≠k+1:=by
    rcases hm with e |e
    ·exact⟨(B.ptwo n).toNat,.inl ⟨e,by omega⟩,by omega,by omega⟩
    ·exact⟨(B.pone n).toNat,.inr ⟨e,by omega⟩,by omega,by omega⟩
   have hnew:=aee hB hA (show n<B.pairs.length by omega) ho;obtain rfl |rfl |rfl |rfl:o=0\/o=1\/o=2\/o=3:=by omega
   all_goals
    simp only[hnew.1,hnew.2] at *
    split<;>split<;>split<;>split<;>simp_all<;>omega
  ·rw[if_neg hm] at hinc
   split<;>split<;>split<;>split<;>simp_all<;>omega
theorem aef {B:Bk} (hB:B.Fine) (hA:B.alarm=0) {T:Nat->Int} (hT: ∀k,0<=T k) (most:Bool) (h:Nat) {k:Nat} (hk:k<B.spokes):B.inn T most h k<=15:=by
 have h1:=adY hB hA hT (c:=B.call most h) (fun i _=>Gj B hB most h i) hk _ (nR _);rw[adW hB hA T _ (fun i _=>(Gj B hB most h i).1) k _ (nR _)] at h1;have h0:=ads B k 0 B.pairs.length;have h2:=ads B k 1 B.pairs.length;have h3:=ads B k 2 B.pairs.length;have h4:=ads B k 3 B.pairs.length;have ht:=hB.towns;have hs:B.spokes=B.towns.length-1:=rfl;unfold Bk.inn Bk.load;have:k=0\/k=1\/k=2:=by omega
 rcases this with rfl |rfl |rfl<;>simp at h1<;>omega
theorem aeg {B:Bk} (hB:B.Fine) (hA:B.alarm=0) {t:List Int} (ht: ∀x∈t,0<=x/\x<=5) (k:Nat):0<=trk (jC B t) k/\trk (jC B t) k<=15:=by
 have h0: ∀k,0<=trk t k/\trk t k<=5:=aob ht (by decide);rw[adD]
 split
 ·rename_i hk;exact⟨rM B _ k _,FW B _ k (by omega) _ fun h _=>aef hB hA (fun k=>(h0 k).1) true h hk⟩
 ·have:=h0 k;omega
theorem adZ {xs:List Int} (h: ∀k,k<xs.length->0<=trk xs k/\trk xs k<=20):dN xs=false:=by
 unfold dN;rw[List.any_eq_false];intro x hx;obtain⟨i,hi,rfl⟩:=List.getElem_of_mem hx;have h1:=h i hi;have h2:=adE hi;rw[lG hi] at h2;simp only[Option.some.injEq] at h2;rw[<-h2] at h1;simp[btw];omega
theorem adK {B:Bk} (hA:B.alarm=0) {may:Int->Bool}:aH B (aC B may).1 true=0/\(∀k,btw (trk (aC B may).1 k) 0 20=true)/\aQ B (trk (aC B may).1) B.hours.toNat 0 1=1/\(aC B may).2=fZ B (trk (aC B may).1) B.links.length:=by
 have hG:=gY hA;have hB:=hG.fine;obtain⟨t,hd,hl,ht,e1,e2⟩:=aea hG may;rw[e1,e2];have hb:=aeg hB hA ht;have hfl:=MS hl hB.links.1;refine⟨vG hA hfl (adZ fun k _=>by have:=hb k;omega),fun k=> ?_,ad6 hB,rfl⟩;have:=hb k;simp[btw];omega
structure Alike (A B:Bk):Prop where
 hours:B.hours=A.hours
 towns:B.towns=A.towns
 links:B.links=A.links
 len:B.pairs.length=A.pairs.length
 one: ∀i,B.pone i=A.pone i
 two: ∀i,B.ptwo i=A.ptwo i
theorem Alike.direct {A B:Bk} (s:Alike A B) (a b:Int):B.direct a b=A.direct a b:=by
 have h1: ∀n i,B.directFrom a b n i=A.directFrom a b n i:=by
  intro n
  induction n with
  |zero=>intro i;rfl
  |succ n ih=>
   intro i;unfold Bk.directFrom;rw[show B.one i=A.one i by unfold Bk.one;rw[s.links],show B.two i=A.two i by unfold Bk.two;rw[s.links],ih]
 unfold Bk.direct;rw[h1,s.links,show B.spokes=A.spokes by unfold Bk.spokes;rw[s.towns]]
theorem Alike.spokes {A B:Bk} (s:Alike A B):B.spokes=A.spokes:=by unfold Bk.spokes;rw[s.towns]
theorem Alike.ld {A B:Bk} (s:Alike A B) (T c:Nat->Int) (k:Nat): ∀n,adu B T c k n=adu A T c k n
 | 0=>rfl
 |n+1=>by
  unfold adu;rw[s.ld T c k n,s.one,s.two];unfold incr adr;rw[s.direct]
theorem Alike.cost {A B:Bk} (s:Alike A B) (T:Nat->Int): ∀n,fZ B T n=fZ A T n:=by
 intro n
 induction n with
 |zero=>rfl
 |succ n ih=>
  unfold fZ;rw[ih];unfold bH;rw[s.links]
theorem agE {A B:Bk} (s:Alike A B) (hA:A.alarm=0) (hB:B.alarm=0) {T:Nat->Int} (hT: ∀k,0<=T k) (most:Bool) (h:Nat) (hc: ∀i,i<A.pairs.length->A.call most h i<=B.call most h i) (k:Nat):A.inn T most h k<=B.inn T most h k:=by
 rw[aeE hA,aeE hB,s.len,s.ld];exact aeF hT hc k _ (nR _)
def agl (A B:Bk):Prop:= ∀h i,A.call true h i<=B.call true h i
theorem agF {A B:Bk} (s:Alike A B) (hA:A.alarm=0) (hB:B.alarm=0) {T:Nat->Int} (hT: ∀k,0<=T k) (most:Bool) {h:Nat} (hc: ∀i,A.call most h i<=B.call most h i) (hl:B.lackIn T most h<0):A.lackIn T most h<0:=by
 rw[vC] at hl ⊢;intro j hj;have h1:=hl j (by rw[s.spokes];exact hj);have h2:=agE s hA hB hT most h (fun i _=>hc i) j;omega
theorem agm {A B:Bk} (s:Alike A B) (hA:A.alarm=0) (hB:B.alarm=0) {T:Nat->Int} (hT: ∀k,0<=T k) (hc:agl A B) (h:aQ B T B.hours.toNat 0 1=1):aQ A T A.hours.toNat 0 1=1:=by
 rw[ae2 hA hT];rw[ae2 hB hT] at h;intro g hg;exact agF s hA hB hT true (hc g) (h g (by rw[s.hours];exact hg))
theorem agG {A B:Bk} (s:Alike A B) (hA:A.alarm=0) (hB:B.alarm=0) (hc:agl A B):(aC A aT).2<=(aC B aT).2:=by
 obtain⟨h1,h2,h3,h4⟩:=adK (B:=B) (may:=aT) hB;obtain⟨_,h5,h6⟩:=nN h1;have h7:=agm s hA hB (T:=trk (aC B aT).1) (fun k=>(lZ h6 k).1) hc h3;have h8:=adS (B:=A) (may:=aT) (gY hA) (xs:=(aC B aT).1) (by rw[h5,s.links]) h6 (fun _ _ h=>by cases h) h7;have h9:=aer h8;unfold adt at h9;rw[h4,s.cost,s.links];exact h9
def agd (p q:Pr):Prop:=q.one=p.one/\q.two=p.two/\q.calls.length=p.calls.length/\ ∀(m:Nat) (x y:Int×Int),p.calls[m]? =some x->q.calls[m]? =some y->0<=x.1/\x.1<=x.2/\x.1<=y.1/\x.2<=y.2
structure Dom (A B:Bk):Prop where
 hours:B.hours=A.hours
 towns:B.towns=A.towns
 links:B.links=A.links
 len:B.pairs.length=A.pairs.length
 at_: ∀(i:Nat) (p q:Pr),A.pairs[i]? =some p->B.pairs[i]? =some q->agd p q
theorem afZ {α β:Type} {l:List α} {m:List β} (h:m.length=l.length) (i:Nat):(∃x y,l[i]? =some x/\m[i]? =some y)\/(l[i]? =none/\m[i]? =none):=by
 by_cases hi:i<l.length
 ·exact .inl ⟨_,_,lG hi,lG (by omega)⟩
 ·exact .inr ⟨List.getElem?_eq_none (by omega),List.getElem?_eq_none (by omega)⟩
theorem Dom.calls {A B:Bk} (d:Dom A B) (most:Bool) (h i:Nat):A.call most h i<=B.call most h i:=by
 unfold Bk.call
 rcases afZ d.len i with ⟨p,q,h1,h2⟩ |⟨h1,h2⟩
 ·obtain⟨_,_,hl,hc⟩:=d.at_ i p q h1 h2;rw[h1,h2];simp only[Option.bind_some]
  rcases afZ hl h with ⟨x,y,g1,g2⟩ |⟨g1,g2⟩
  ·have:=hc h x y g1 g2;rw[g1,g2]
   cases most<;>simp<;>omega
  ·rw[g1,g2];simp
 ·rw[h1,h2];simp
theorem agI {p q:Pr} (h:agd p q) (hb:jc q.calls=false):jc p.calls=false:=by
 obtain⟨_,_,hl,hc⟩:=h;unfold jc at *;rw[List.any_eq_false] at *;intro x hx;obtain⟨m,hm,rfl⟩:=List.getElem_of_mem hx;have h1:=lG hm;have h2:=lG (show m<q.calls.length by omega);have h3:=hc m _ _ h1 h2;have h4:=hb _ (List.getElem_mem (show m<q.calls.length by omega));simp only[dw,Bool.not_eq_true',decide_eq_false_iff_not,Decidable.not_not] at *;omega
theorem agn {nt hours:Int}: ∀(ps qs:List Pr) (S:List (Int×Int)),qs.length=ps.length->(∀(i:Nat) (p q:Pr),ps[i]? =some p->qs[i]? =some q->agd p q)->fP nt hours S qs=0->fP nt hours S ps=0
 | [],_,_,_,_,_=>rfl
 |p::ps,[],_,h,_,_=>by simp at h
 |p::ps,q::qs,S,h,hp,h0=>by
  have h1:=hp 0 p q rfl rfl;have h1':=h1;obtain⟨e1,e2,e3,_⟩:=h1;unfold fP at h0 ⊢;rw[e1,e2,e3] at h0
  split at h0
  ·cases h0
  rename_i c1;rw[if_neg c1]
  split at h0
  ·cases h0
  rename_i c2;rw[if_neg c2]
  split at h0
  ·cases h0
  rename_i c3;rw[if_neg c3]
  split at h0
  ·rename_i c4;rw[if_pos c4]
   split at h0
   ·cases h0
   rename_i c5;rw[if_neg (by rw[agI h1' (by simpa using c5)];decide)];exact agn ps qs _ (by simpa using h) (fun i a b ha hb=>hp (i+1) a b (by simpa using ha) (by simpa using hb)) h0
  ·cases h0
theorem agq {B:Bk} (h0:iZ B.hours=0) (h1:fM B.towns=0) (h2:dA B.towns.length B.links=0):B.alarm=dR B.towns.length B.hours B.pairs:=by
 unfold Bk.alarm;simp only[kH,alK];rw[if_pos h0,if_pos h1,if_pos h2]
 split
 ·rename_i h;exact h.symm
 ·rfl
theorem Dom.alarm {A B:Bk} (d:Dom A B) (h:B.alarm=0):A.alarm=0:=by
 obtain⟨h0,h1,h2,h3⟩:=GX h;rw[d.hours] at h0 h3;rw[d.towns] at h1 h2 h3;rw[d.links] at h2;rw[agq h0 h1 h2];unfold dR at h3 ⊢;rw[d.len] at h3
 split at h3
 ·cases h3
 ·rename_i c;rw[if_neg c];exact agn _ _ _ d.len d.at_ h3
theorem ahg {nt hours:Int}: ∀(ps qs:List Pr) (S:List (Int×Int)),qs.length=ps.length->(∀(i:Nat) (p q:Pr),ps[i]? =some p->qs[i]? =some q->q.one=p.one/\q.two=p.two/\q.calls.length=p.calls.length/\jc q.calls=false)->fP nt hours S ps=0->fP nt hours S qs=0
 | [],[],_,_,_,_=>rfl
 | [],q::qs,_,h,_,_=>by simp at h
 |p::ps,[],_,h,_,_=>by simp at h
 |p::ps,q::qs,S,h,hp,h0=>by
  obtain⟨e1,e2,e3,e4⟩:=hp 0 p q rfl rfl;unfold fP at h0 ⊢;rw[e1,e2,e3]
  split at h0
  ·cases h0
  rename_i c1;rw[if_neg c1]
  split at h0
  ·cases h0
  rename_i c2;rw[if_neg c2]
  split at h0
  ·cases h0
  rename_i c3;rw[if_neg c3]
  split at h0
  ·rename_i c4;rw[if_pos c4]
   split at h0
   ·cases h0
   rw[if_neg (by rw[e4];decide)];exact ahg ps qs _ (by simpa using h) (fun i a b ha hb=>hp (i+1) a b (by simpa using ha) (by simpa using hb)) h0
  ·cases h0
theorem aho {A B:Bk} (hA:A.alarm=0) (e1:B.hours=A.hours) (e2:B.towns=A.towns) (e3:B.links=A.links) (e4:B.pairs.length=A.pairs.length) (e5: ∀(i:Nat) (p q:Pr),A.pairs[i]? =some p->B.pairs[i]? =some q->q.one=p.one/\q.two=p.two/\q.calls.length=p.calls.length/\jc q.calls=false):B.alarm=0:=by
 obtain⟨h0,h1,h2,h3⟩:=GX hA;rw[agq (by rw[e1];exact h0) (by rw[e2];exact h1) (by rw[e2,e3];exact h2),e1,e2];unfold dR at h3 ⊢;rw[e4]
 split at h3
 ·cases h3
 ·rename_i c;rw[if_neg c];exact ahg _ _ _ e4 e5 h3
theorem ag9 (B:Bk) (i h:Nat) (y:Int×Int):(fD B i h y).pairs.length=B.pairs.length:=by show (List.modify _ _ _).length=_;rw[List.length_modify]
theorem aha {B:Bk} {i h j:Nat} {y:Int×Int} {p q:Pr} (hp:B.pairs[j]? =some p) (hq:(fD B i h y).pairs[j]? =some q):q.one=p.one/\q.two=p.two/\q.calls.length=p.calls.length/\ ∀m,q.calls[m]? =if j=i/\m=h/\m<p.calls.length then some y else p.calls[m]? :=by
 obtain⟨q3,e0,e1,e2,e3,e4⟩:=mO hq;rw[hp] at e0
 cases e0
 exact⟨e1,e2,e3,fun m=>by rw[e4 m]⟩
theorem ahp {l:List (Int×Int)}:jc l=false↔ ∀(m:Nat) (x:Int×Int),l[m]? =some x->dw x=true:=by
 unfold jc;rw[List.any_eq_false];constructor
 ·intro h m x hx;have:=h x (List.mem_of_getElem? hx);simpa using this
 ·intro h x hx;obtain⟨m,hm,rfl⟩:=List.getElem_of_mem hx;rw[h m _ (lG hm)]
  decide
theorem ahq {B:Bk} (hB:B.alarm=0) {i h:Nat} {y:Int×Int} (hy:dw y=true):(fD B i h y).alarm=0:=by
 refine aho hB rfl rfl rfl (ag9 B i h y) fun j p q hp hq=> ?_;obtain⟨e1,e2,e3,e4⟩:=aha hp hq;refine⟨e1,e2,e3,ahp.2 fun m x hx=> ?_⟩;rw[e4 m] at hx
 split at hx
 ·cases hx;exact hy
 ·have:=((gY hB).fine.calls j p hp).2 m x hx;simpa[dw] using this
theorem ahr (B:Bk) (i h:Nat) (y:Int×Int):Alike B (fD B i h y):=by
 refine⟨rfl,rfl,rfl,ag9 B i h y,fun j=> ?_,fun j=> ?_⟩
 all_goals
  rcases afZ (ag9 B i h y) j with ⟨p,q,h1,h2⟩ |⟨h1,h2⟩
 ·unfold Bk.pone;rw[h1,h2];exact(aha h1 h2).1
 ·unfold Bk.pone;rw[h1,h2]
 ·unfold Bk.ptwo;rw[h1,h2];exact(aha h1 h2).2.1
 ·unfold Bk.ptwo;rw[h1,h2]
theorem ahs {B:Bk} {i h:Nat} {y:Int×Int} {L:Nat} {p:Pr} (hp:B.pairs[i]? =some p) (hL:p.calls.length=L) (hh:h<L) (most:Bool) (g j:Nat):(fD B i h y).call most g j=if j=i/\g=h then (if most then y.2 else y.1) else B.call most g j:=by
 unfold Bk.call
 rcases afZ (ag9 B i h y) j with ⟨a,b,h1,h2⟩ |⟨h1,h2⟩
 ·obtain⟨e1,e2,e3,e4⟩:=aha h1 h2;rw[h1,h2];simp only[Option.bind_some];rw[e4 g];by_cases c:j=i/\g=h
  ·obtain⟨rfl,rfl⟩:=c;rw[hp] at h1
   cases h1
   rw[if_pos ⟨rfl,rfl,by omega⟩,if_pos ⟨rfl,rfl⟩]
  ·rw[if_neg (fun k=>c ⟨k.1,k.2.1⟩),if_neg c]
 ·rw[h1,h2];by_cases c:j=i/\g=h
  ·obtain⟨rfl,rfl⟩:=c;rw[hp] at h1;cases h1
  ·rw[if_neg c]
theorem ajM {w u:World} {V:BkV} {B:Bk} (hs:aB w V B) {b o g gc cb cc i h:Nat} {x:Int×Int} (hpa:V.pa=some ⟨b,o,none⟩) (hi:i<B.pairs.length) (hb:Below w.heap.size w u)
  (h0: ∀j,j<B.pairs.length->u.cell? ⟨g,j*3,none⟩=some (iN qi (B.pone j))/\u.cell? ⟨g,j*3+1,none⟩=some (iN qi (B.ptwo j))/\(j≠i->u.cell? ⟨g,j*3+2,none⟩=w.cell? ⟨b,o+j*3+2,none⟩))
  (h1:u.cell? ⟨g,i*3+2,none⟩=some (sL (some ⟨cb,0,none⟩) (B.pairs[i]).calls.length cc))
  (h2: ∀(k:Nat) (y:Int×Int),(B.pairs[i]).calls[k]? =some y->u.cell? ⟨cb,k*2,none⟩=some (iN qi (if k=h then x else y).1)/\u.cell? ⟨cb,k*2+1,none⟩=some (iN qi (if k=h then x else y).2)):
  aB u {V with pa:=some ⟨g,0,none⟩,pc:=gc} (fD B i h x):=by
 have hs2:=hs.below hb (nR _);refine⟨hs2.towns,hs2.links,fun j q hq=> ?_,hs.nt,hs.nl,by rw[ag9];exact hs.np,hs.tc⟩;obtain⟨p,hp,e1,e2,e3,e4⟩:=mO hq;have hj:j<B.pairs.length:=(lS.1 hp).1;have hpj:B.pairs[j]=p:=(lS.1 hp).2;obtain⟨k0,k1,k2⟩:=h0 j hj;have hpo:B.pone j=q.one:=by unfold Bk.pone;rw[hp,e1];rfl
 have hpt:B.ptwo j=q.two:=by unfold Bk.ptwo;rw[hp,e2];rfl
 rw[hpo] at k0;rw[hpt] at k1;obtain⟨b2,o2,sa2,sc2,e5,_,_,h5,h6,h7⟩:=hs.pairs j p hp;rw[hpa] at e5
 cases e5
 by_cases c:j=i
 ·subst c;rw[hpj] at h1 h2;refine⟨g,0,some ⟨cb,0,none⟩,cc,rfl,by rw[Nat.zero_add];exact k0,by rw[Nat.zero_add];exact k1,by rw[Nat.zero_add,e3];exact h1,fun k y hy=> ?_,by rw[e3];exact h7⟩;rw[e4 k] at hy;by_cases c2:k=h/\k<p.calls.length
  ·rw[if_pos ⟨rfl,c2⟩] at hy
   cases hy
   have h8:=h2 k _ (lG c2.2);rw[if_pos c2.1] at h8;exact⟨cb,0,rfl,by rw[Nat.zero_add];exact h8.1,by rw[Nat.zero_add];exact h8.2⟩
  ·rw[if_neg (fun z=>c2 z.2)] at hy;have h8:=h2 k y hy;have hk:=(lS.1 hy).1;rw[if_neg (fun z=>c2 ⟨z,hk⟩)] at h8;exact⟨cb,0,rfl,by rw[Nat.zero_add];exact h8.1,by rw[Nat.zero_add];exact h8.2⟩
 ·have h9:q.calls=p.calls:=by
   apply List.ext_getElem?;intro m;rw[e4 m,if_neg (fun z=>c z.1)]
  refine⟨g,0,sa2,sc2,rfl,by rw[Nat.zero_add];exact k0,by rw[Nat.zero_add];exact k1,by rw[Nat.zero_add,k2 c,h9];exact h5,by rw[h9];exact h6.below hb (nR _),by rw[h9];exact h7⟩
end Go.Proofs.YtfiiffnbggnkfaaDoor
