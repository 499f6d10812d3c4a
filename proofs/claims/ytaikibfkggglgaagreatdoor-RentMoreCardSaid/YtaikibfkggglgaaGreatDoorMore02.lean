/- A part of the proof of a law; no conditions of its own. -/
import Derived.Test.YtaikibfkggglgaaGreatDoorMore01
import Derived.Laws.MakeOwn
import Derived.Laws.AppendOwn
open Go renaming Value→vL, World→wD
open Go.IntKind renaming i64→qi
open Go.Value renaming int→iN, slice→sL, pointer→pN
set_option maxRecDepth 100000
open Nat renaming le_refl→nR
open Go.Lib renaming hid→lH
open List renaming getElem?_eq_getElem→lG
open Array renaming getElem?_eq_some_iff→aS
open Go.World renaming cell?_setCell_far→wF
open List renaming getD_eq_getElem?_getD→lD
set_option maxHeartbeats 4000000
namespace Go.Proofs.YtaikibfkggglgaaGreatDoor
open Go.RowKit Go.Rent Go.Tp Go.Conc
theorem FN (B:Bk) (a b:Int): ∀n i,0<=B.directFrom a b n i->B.one (B.directFrom a b n i).toNat=a/\B.two (B.directFrom a b n i).toNat=b
 | 0,i,h=>by unfold Bk.directFrom at h;omega
 |n+1,i,h=>by
  unfold Bk.directFrom at h ⊢;by_cases e:B.one i=a/\B.two i=b
  ·rw[if_pos e,Int.toNat_natCast];exact e
  ·rw[if_neg e] at h ⊢; exact FN B a b n (i+1) h
theorem FP {B:Bk} {a b:Int} (h:0<=B.direct a b):B.one (B.direct a b).toNat=a/\B.two (B.direct a b).toNat=b:=FN B a b _ _ h
theorem FQ {nt hours:Int}: ∀(l:List Pr) (S:List (Int×Int)),fP nt hours S l=0->(∀x∈l,bZ S x.one x.two=false)/\ ∀(i j:Nat) (x y:Pr),i<j->l[i]? =some x->l[j]? =some y-> ¬(x.one=y.one/\x.two=y.two)
 | [],S,_=>⟨fun x hx=>(by cases hx),fun i j x y _ h=>(by cases h)⟩
 |p::l,S,h=>by
  unfold fP at h
  split at h
  ·cases h
  split at h
  ·cases h
  split at h
  ·cases h
  rename_i hm
  split at h
  ·split at h
   ·cases h
   obtain⟨h1,h2⟩:=FQ l _ h;have hs: ∀x∈l,bZ S x.one x.two=false/\ ¬(p.one=x.one/\p.two=x.two):=fun x hx=>by
    have:=h1 x hx;rw[Ce,Bool.or_eq_false_iff] at this;refine⟨this.2,fun⟨e1,e2⟩=> ?_⟩;have h3:=this.1;rw[e1,e2] at h3;simp at h3
   refine⟨fun x hx=> ?_,fun i j x y hij hx hy=> ?_⟩
   ·rcases List.mem_cons.1 hx with e |e
    ·subst e;simpa using hm
    ·exact(hs x e).1
   ·cases j with
    |zero=>omega
    |succ j=>
     rw[List.getElem?_cons_succ] at hy
     cases i with
     |zero=>cases hx;exact(hs y (List.mem_of_getElem? hy)).2
     |succ i=>exact h2 i j x y (by omega) (by simpa using hx) hy
  ·cases h
theorem Ol {B:Bk} (h:B.alarm=0) {i j:Nat} (hij:i<j) (hj:j<B.pairs.length): ¬(B.pone i=B.pone j/\B.ptwo i=B.ptwo j):=by
 obtain⟨_,_,_,h3⟩:=GX h;unfold dR at h3
 split at h3
 ·cases h3
 have hx:B.pairs[i]? =some B.pairs[i]:=lG (by omega);have hy:B.pairs[j]? =some B.pairs[j]:=lG hj;have:=(FQ _ _ h3).2 i j _ _ hij hx hy;unfold Bk.pone Bk.ptwo;rw[hx,hy];exact this
theorem Om (B:Bk) (T:Nat->Int) (n a b:Int) (out:Nat->Int) {k:Nat} (h1:k≠(a-1).toNat) (h2:k≠(b-1).toNat):B.go T n a b out k=if a≠0/\B.direct a b=k then min n (T k) else out k:=by
 unfold Bk.go;by_cases ha:a=0
 ·rw[if_pos ha,if_neg (by omega)];exact dQ _ _ h2
 ·rw[if_neg ha];rw[dQ _ _ h2,dQ _ _ h1];by_cases hk:0<=B.direct a b
  ·simp only[if_pos hk];by_cases e:B.direct a b=k
   ·rw[if_pos ⟨ha,e⟩,e,Int.toNat_natCast];simp
   ·rw[if_neg (fun h=>e h.2)];exact dQ _ _ (by omega)
  ·simp only[if_neg hk];rw[if_neg (by omega)]
theorem BN (B:Bk) (T T' c:Nat->Int) (h: ∀i,i<B.pairs.length->B.pone i≠0->0<=B.direct (B.pone i) (B.ptwo i)->min (c i) (T' (B.direct (B.pone i) (B.ptwo i)).toNat)=min (c i) (T (B.direct (B.pone i) (B.ptwo i)).toNat)): ∀n,n<=B.pairs.length->B.loadTo T' c n=B.loadTo T c n
 | 0,_=>rfl
 |n+1,hn=>by
  unfold Bk.loadTo;rw[BN B T T' c h n (by omega)];unfold Bk.go;by_cases ha:B.pone n=0
  ·rw[if_pos ha,if_pos ha]
  ·rw[if_neg ha,if_neg ha];by_cases hk:0<=B.direct (B.pone n) (B.ptwo n)
   ·simp only[if_pos hk];rw[h n (by omega) ha hk]
   ·simp only[if_neg hk]
theorem Oo (B:Bk) (hB:B.Fine) (T:Nat->Int) {n n' a b:Int} {out out':Nat->Int} (hn:n<=n') (h: ∀j,j<B.spokes->out j<=out' j) (hab:a≠0->1<=a/\a<b):
  ∀j,j<B.spokes->B.go T n a b out j<=B.go T n' a b out' j:=by
 intro j hj;have hj':=h j hj;unfold Bk.go;by_cases ha:a=0
 ·rw[if_pos ha,if_pos ha];unfold fup
  split
  ·rename_i e;rw[<-e];omega
  ·exact hj'
 ·rw[if_neg ha,if_neg ha];have hab:=hab ha;have hne:(a-1).toNat≠(b-1).toNat:=by omega
  by_cases hk:0<=B.direct a b
  ·simp only[if_pos hk];have hkb:=pF B hB a b;have hkk:B.spokes<=(B.direct a b).toNat:=by omega
   generalize (B.direct a b).toNat=k at *;have hjk:j≠k:=by omega
   unfold fup;simp only[if_neg (Ne.symm hne)];by_cases e1:j=(b-1).toNat
   ·rw[if_pos e1,if_pos e1,<-e1,if_neg hjk,if_neg hjk];omega
   ·rw[if_neg e1,if_neg e1];by_cases e2:j=(a-1).toNat
    ·rw[if_pos e2,if_pos e2,<-e2,if_neg hjk,if_neg hjk];omega
    ·rw[if_neg e2,if_neg e2,if_neg hjk,if_neg hjk];exact hj'
  ·simp only[if_neg hk];unfold fup;simp only[if_neg (Ne.symm hne)];by_cases e1:j=(b-1).toNat
   ·rw[if_pos e1,if_pos e1,<-e1];omega
   ·rw[if_neg e1,if_neg e1];by_cases e2:j=(a-1).toNat
    ·rw[if_pos e2,if_pos e2,<-e2];omega
    ·rw[if_neg e2,if_neg e2];exact hj'
theorem FU (B:Bk) (hB:B.Fine) (T c c':Nat->Int) (hc: ∀i,i<B.pairs.length->c i<=c' i): ∀n,n<=B.pairs.length-> ∀j,j<B.spokes->B.loadTo T c n j<=B.loadTo T c' n j
 | 0,_,_,_=>Int.le_refl _
 |n+1,hn,j,hj=>by
  unfold Bk.loadTo;have he:=hB.ends n (by omega);exact Oo B hB T (hc n (by omega)) (FU B hB T c c' hc n (by omega)) (fun h=>by omega) j hj
theorem FV {B:Bk} (hB:B.Fine) (most:Bool) (h i:Nat):B.call most h i<=B.call true h i:=by
 unfold Bk.call
 cases e:B.pairs[i]? with
 |none=>exact Int.le_refl _
 |some p=>
  simp only[Option.bind_some]
  cases e2:p.calls[h]? with
  |none=>exact Int.le_refl _
  |some x=>
   have:=(hB.calls i p e).2 h x e2
   cases most<;>simp<;>omega
theorem Oq {B:Bk} (hB:B.Fine) (T:Nat->Int) (most:Bool) (h:Nat) {j:Nat} (hj:j<B.spokes):B.inn T most h j<=B.inn T true h j:=
 FU B hB T _ _ (fun i _=>FV hB most h i) _ (nR _) j hj
theorem BO (B:Bk) (T:Nat->Int) (j:Nat): ∀n h,h<n->B.inn T true h j<=bW B T n j
 | 0,h,hh=>by omega
 |n+1,h,hh=>by
  unfold bW;by_cases e:h=n
  ·subst e;omega
  ·have:=BO B T j n h (by omega);omega
theorem FW (B:Bk) (T:Nat->Int) (j:Nat) {m:Int} (hm:0<=m): ∀n,(∀h,h<n->B.inn T true h j<=m)->bW B T n j<=m
 | 0,_=>hm
 |n+1,hh=>by
  unfold bW;have h1:=FW B T j hm n fun h a=>hh h (by omega);have h2:=hh n (by omega);omega
theorem rM (B:Bk) (T:Nat->Int) (j:Nat): ∀n,0<=bW B T n j
 | 0=>Int.le_refl _
 |n+1=>by unfold bW;have:=rM B T j n;omega
theorem FY (B:Bk) {T T':Nat->Int} (j:Nat): ∀n,(∀h,h<n->B.inn T' true h j=B.inn T true h j)->bW B T' n j=bW B T n j
 | 0,_=>rfl
 |n+1,hh=>by
  unfold bW;rw[FY B j n fun h a=>hh h (by omega),hh n (by omega)]
def adr (B:Bk) (T:Nat->Int) (a b:Int):Int:=if 0<=B.direct a b then T (B.direct a b).toNat else 0
def incr (B:Bk) (T:Nat->Int) (n a b:Int) (k:Nat):Int:=
 if a=0 then (if (k:Int)=b-1 then n else 0)
 else (if B.direct a b=k then min n (adr B T a b) else 0)+if (k:Int)=a-1\/(k:Int)=b-1 then n-min n (adr B T a b) else 0
def adu (B:Bk) (T:Nat->Int) (c:Nat->Int) (k:Nat):Nat->Int
 | 0=>0
 |i+1=>adu B T c k i+incr B T (c i) (B.pone i) (B.ptwo i) k
theorem adV {B:Bk} (hB:B.Fine) (T c:Nat->Int) {k:Nat} (hk:B.spokes<=k): ∀n,n<=B.pairs.length->(∀i,i<n->B.pone i≠0->B.direct (B.pone i) (B.ptwo i)≠k)->B.loadTo T c n k=0
 | 0,_,_=>rfl
 |n+1,hn,h=>by
  have he:=hB.ends n (by omega);have ht:B.spokes=B.towns.length-1:=rfl;unfold Bk.loadTo;rw[Om B T _ _ _ _ (by omega) (by omega),if_neg (fun⟨h1,h2⟩=>h n (by omega) h1 h2)];exact adV hB T c hk n (by omega) fun i hi=>h i (by omega)
theorem aec {B:Bk} (hB:B.Fine) (T:Nat->Int) {n a b:Int} (hn:0<=n) (out:Nat->Int) (k:Nat) (hab:0<=a/\a<b/\b<B.towns.length) (h0:a≠0->B.direct a b=k->out k=0):B.go T n a b out k=out k+incr B T n a b k:=by
 have hd:=pF B hB a b;have ht:B.spokes=B.towns.length-1:=rfl;unfold Bk.go incr adr;by_cases ha:a=0
 ·rw[if_pos ha,if_pos ha];by_cases e:k=(b-1).toNat
  ·rw[<-e,BZ,if_pos (by omega)]
  ·rw[dQ _ _ e,if_neg (by omega)];omega
 ·rw[if_neg ha,if_neg ha];by_cases hk:0<=B.direct a b
  ·simp only[if_pos hk];generalize min n (T (B.direct a b).toNat)=m at *;by_cases e1:k=(b-1).toNat
   ·rw[<-e1,BZ,dQ _ _ (by omega),dQ _ _ (by omega),if_neg (by omega),if_pos (by omega)];omega
   ·rw[dQ _ _ e1];by_cases e2:k=(a-1).toNat
    ·rw[<-e2,BZ,dQ _ _ (by omega),if_neg (by omega),if_pos (by omega)];omega
    ·rw[dQ _ _ e2];by_cases e3:k=(B.direct a b).toNat
     ·rw[<-e3,BZ,h0 ha (by omega),if_pos (by omega),if_neg (by omega)];omega
     ·rw[dQ _ _ e3,if_neg (by omega),if_neg (by omega)];omega
  ·simp only[if_neg hk];rw[Int.min_eq_right hn];by_cases e1:k=(b-1).toNat
   ·rw[<-e1,BZ,dQ _ _ (by omega),if_pos (show (k:Int)=a-1\/(k:Int)=b-1 by omega)]
    split<;>omega
   ·rw[dQ _ _ e1];by_cases e2:k=(a-1).toNat
    ·rw[<-e2,BZ,if_pos (show (k:Int)=a-1\/(k:Int)=b-1 by omega)]
     split<;>omega
    ·rw[dQ _ _ e2,if_neg (show ¬((k:Int)=a-1\/(k:Int)=b-1) by omega)]
     split<;>omega
theorem adW {B:Bk} (hB:B.Fine) (hA:B.alarm=0) (T c:Nat->Int) (hc: ∀i,i<B.pairs.length->0<=c i) (k:Nat): ∀n,n<=B.pairs.length->adu B T c k n=B.loadTo T c n k
 | 0,_=>rfl
 |n+1,hn=>by
  have he:=hB.ends n (by omega);have ht:B.spokes=B.towns.length-1:=rfl;unfold adu Bk.loadTo;rw[adW hB hA T c hc k n (by omega),aec hB T (hc n (by omega)) _ k ⟨he.1,he.2.1,he.2.2⟩ fun ha hd=> ?_];have hdb:=pF B hB (B.pone n) (B.ptwo n);refine adV hB T c (by omega) n (by omega) fun i hi h1 h2=> ?_;have d1:=FP (B:=B) (a:=B.pone i) (b:=B.ptwo i) (by omega);have d2:=FP (B:=B) (a:=B.pone n) (b:=B.ptwo n) (by omega);rw[h2] at d1;rw[hd] at d2;exact Ol hA hi (by omega) ⟨d1.1.symm.trans d2.1,d1.2.symm.trans d2.2⟩
theorem aeZ {B:Bk} {T:Nat->Int} (hT: ∀k,0<=T k) {n m:Int} (h:n<=m) (a b:Int) (k:Nat):incr B T n a b k<=incr B T m a b k:=by
 have:0<=adr B T a b:=by unfold adr;split;exact hT _;omega
 unfold incr
 split<;>split<;>(try split)<;>omega
theorem aeF {B:Bk} {T c d:Nat->Int} (hT: ∀k,0<=T k) (h: ∀i,i<B.pairs.length->c i<=d i) (k:Nat): ∀n,n<=B.pairs.length->adu B T c k n<=adu B T d k n
 | 0,_=>Int.le_refl _
 |n+1,hn=>by
  have h1:=aeF hT h k n (by omega);have h2:=aeZ (B:=B) hT (h n (by omega)) (B.pone n) (B.ptwo n) k;unfold adu;omega
theorem aeE {B:Bk} (hA:B.alarm=0) (T:Nat->Int) (most:Bool) (h k:Nat):B.inn T most h k=adu B T (B.call most h) k B.pairs.length:=
 (adW (gY hA).fine hA T _ (fun i _=>(Gj B (gY hA).fine most h i).1) k _ (nR _)).symm
theorem aeK {B:Bk} (hB:B.Fine) (h i:Nat):B.call false h i<=B.call true h i:=by
 unfold Bk.call
 cases hp:B.pairs[i]? with
 |none=>simp
 |some p=>
  simp only[Option.bind_some]
  cases hc:p.calls[h]? with
  |none=>simp
  |some x=>
   have:=(hB.calls i p hp).2 h x hc;simp;omega
theorem ae0 {B:Bk} (hA:B.alarm=0) {T:Nat->Int} (hT: ∀k,0<=T k) (h k:Nat):B.inn T false h k<=B.inn T true h k:=by
 rw[aeE hA,aeE hA];exact aeF hT (fun i _=>aeK (gY hA).fine h i) k _ (nR _)
theorem ae1 {B:Bk} (hA:B.alarm=0) {T:Nat->Int} (hT: ∀k,0<=T k) (h:Nat) (hl:B.lackIn T true h<0):B.lackIn T false h<0:=by
 rw[vC] at hl ⊢;intro j hj;have h1:=hl j hj;have h2:=ae0 hA hT h j;omega
theorem ae2 {B:Bk} (hA:B.alarm=0) {T:Nat->Int} (hT: ∀k,0<=T k):aQ B T B.hours.toNat 0 1=1↔ ∀h,h<B.hours.toNat->B.lackIn T true h<0:=by
 rw[Og];exact⟨fun h k hk=>(h.2 k (Nat.zero_le _) (by omega)).2,fun h=>⟨rfl,fun k _ hk=>⟨ae1 hA hT k (h k (by omega)),h k (by omega)⟩⟩⟩
theorem ae4 (B:Bk) (most:Bool) (h:Nat) {i:Nat} (hi:i<B.pairs.length):trk (aey B most h B.pairs.length) i=B.call most h i:=by
 unfold trk aey;rw[lD,List.getElem?_map,List.getElem?_range hi];rfl
theorem aeU {w:wD} {base n:Nat} {v:vL} {xs:List Int} (hn:xs.length=n) (h:w.ownsRow base 3 1 v n (ints xs)): ∃sa cap,v= sL sa n cap/\SlI w sa xs:=by
 subst hn;by_cases h1:1<=xs.length
 ·obtain⟨b,cap,e,_,hO,_⟩:=BM h h1;exact⟨_,cap,e,hO.sl⟩
 ·obtain⟨_,⟨e,_⟩ |⟨g,cap,cur,e,_⟩⟩:=h
  ·exact⟨none,0,by rw[e,show xs.length=0 by omega],fun i x hx=>by rw[List.getElem?_eq_none (by omega)] at hx;cases hx⟩
  ·exact⟨_,cap,e,fun i x hx=>by rw[List.getElem?_eq_none (by omega)] at hx;cases hx⟩
theorem afb {xs:List Int} {k:Nat} (h:k<xs.length):xs[k]=trk xs k:=by
 unfold trk;rw[lD,lG h];rfl
section
variable {u:wD} {b1:Nat} {V:BkV} {B:Bk} {xs cs:List Int} {xa ca:Option Addr} {xc cc:Nat}
end
section
variable {f:FuncId} {N n d s t:Nat} {a:Act} {w:wD} {l:List (Nat×vL)} {ops:Array Oper} {listed:Array Bool} {i:Nat} {rest:List Nat} {kk:List Item} {R:vL->wD->Prop} {o:Oper}
end
theorem alE {n j:Nat} (hj:j<n):(madeCells #[iN qi 0] n)[j]? =some (iN qi 0):=by
 rw[Array.getElem?_eq_getElem (by rw[size_madeCells];exact hj)];simp[madeCells,Nat.mod_one]
theorem LoR.drew {w:wD} {la pa:Option Addr} {B:Bk} {lc pc:Nat} {hours towns:vL} {f:Nat->Int} {wr:wD} (h:LoR w la pa B lc pc hours towns f wr):LoR w la pa B lc pc hours towns f wr.drew:=⟨h.below.drew,h.size,h.b0,h.b1,h.b2,h.b3,h.out⟩
theorem c59 (V:BkV) (B:Bk) (hB:B.Fine) (xs cs:List Int) (xa ca:Option Addr) (xc cc:Nat) (w:wD) (hat:bT w V B) (hx:SlI w xa xs) (hxl:xs.length=B.links.length) (hc:SlI w ca cs) (hcl:cs.length=B.pairs.length) (hT0: ∀k,0<=trk xs k/\trk xs k<=20) (hcb: ∀k,0<=trk cs k/\trk cs k<=5):
  Calls Tryz.prog 122 #[V.val B,sL xa B.links.length xc,sL ca B.pairs.length cc] w fun e w'=> ∃g,e= .returned (sL (some ⟨g,0,none⟩) B.links.length B.links.length)/\w.heap.size<=g/\(∀j,j<B.links.length->w'.cell? ⟨g,j,none⟩=some (iN qi (B.load (trk xs) (trk cs) j)))/\Below w.heap.size w w':=by
 obtain⟨ta,la,pa,tc,lc,pc⟩:=V;have hl:=hB.links;have ht:=hB.towns;have hp:=hB.pairs;unfold Bk.spokes at hl;have hmk:=ZV B.links.length (by omega);go_enter Tryz.func122,Tryz.ntmps122
 go_wp2_with fail
 go_loopw [8] (fun i wr=> ∃k:Nat,k<=B.pairs.length/\i= iN qi (k:Int)/\LoR w la pa B lc pc (iN qi B.hours) (sL ta B.towns.length tc) (B.loadTo (trk xs) (trk cs) k) wr) (fun i _=>B.pairs.length-(intOf i).toNat)
 case atStart=>
  refine⟨0,Nat.zero_le _,rfl,⟨(((Below.refl _ _).alloc (nR _) _).alloc (by simp) _),by simp,by go_simp,by go_simp,by go_simp,by go_simp,fun j hj=> ?_⟩⟩;exact⟨by go_simp;simp only[Bk.loadTo];exact alE hj,by go_simp⟩
 case round=>
  obtain⟨k,hk,rfl,hR⟩:=hrel;have hy3:=hR.b3;by_cases hlt:k<B.pairs.length
  ·have hL:B.pairs[k]? =some B.pairs[k]:=lG hlt;obtain⟨he1,he2,he3⟩:=hB.ends k hlt;have hpo:B.pone k=B.pairs[k].one:=by unfold Bk.pone;rw[hL];rfl
   have hpt:B.ptwo k=B.pairs[k].two:=by unfold Bk.ptwo;rw[hL];rfl
   obtain⟨pb,po,sa,sc,g1,g2,g3,g4,_⟩:=(hat.below hR.below (nR _)).pairs _ _ hL;simp only at g1;subst g1;rw[<-hpo] at g2;rw[<-hpt] at g3;generalize B.pairs[k].calls.length=cn at g4;have hs:=hR.size;obtain⟨cb,co,rfl,hcc⟩:=hc k _ (lG (show k<cs.length by omega));rw[afb (by omega)] at hcc;have hcw:=aoF hR.below hcc (nR _);have hf:B.loadTo (trk xs) (trk cs) (k+1)=B.go (trk xs) (trk cs k) (B.pone k) (B.ptwo k) (B.loadTo (trk xs) (trk cs) k):=rfl;have hfb:=vJ B hB (trk xs) (trk cs) (fun j=>(hT0 j).1) (fun i _=>hcb i) k (by omega);obtain⟨hc0,hc1⟩:=hcb k;generalize B.loadTo (trk xs) (trk cs) k=f at *;generalize B.pone k=a at *;generalize B.ptwo k=b at *;generalize trk cs k=n at *;have Hf:=lH hf;have Hfb:=lH hfb;have HR:=lH hR;have Hat:=lH hat;obtain⟨bj,hbj⟩: ∃j:Nat,(j:Int)=b-1:=⟨(b-1).toNat,Int.toNat_of_nonneg (by omega)⟩;have hbl:bj<B.links.length:=by omega
   have Hbt:Hid ((b-1).toNat=bj):=lH (by omega);obtain⟨o1,o2⟩:=HR.out.out bj hbl;obtain⟨fb0,fb1⟩:0<=f bj/\f bj<=30:=by have:=Hfb.out bj;omega
   have HX:=lH hx;clear hf hfb hL hpo hpt hat hc hx hR;by_cases ha:a=0
   ·subst ha
    go_wp2_with fail
    have HB2:=lH ((Below.refl wr.heap.size wr).alloc (nR _) (.cells #[iN qi 0,iN qi b,sL sa cn sc] 56));have HR2:=lH (HR.out.step HB2.out);have p1:(wr.alloc (.cells #[iN qi 0,iN qi b,sL sa cn sc] 56)).cell? ⟨wr.heap.size,1,none⟩=some (iN qi b):=by go_simp
    have c3:=aoF HB2.out hcw (nR _);have o3:=(HR2.out.out bj hbl).1;have f3:=(HR2.out.out bj hbl).2;generalize hW:wr.alloc (.cells #[iN qi 0,iN qi b,sL sa cn sc] 56)=W at *;clear hW hcw o1 o2 hy3 g2 g3 g4;have w1:IntKind.wrap qi (b-1)=(bj:Int):=(IntWalk.i64_in _ (by omega)).trans hbj.symm;have w2:IntKind.wrap qi (f bj+n)=f bj+n:=IntWalk.i64_in _ (by omega);have hbl2:(bj:Int)<(B.links.length:Int):=by omega
    have hkl2:(k:Int)<(B.pairs.length:Int):=by omega
    have HBJ:=lH hbj;clear hbj;refine ahn 16 16 (by kernel_rfl) ?_
    change LaB _ _ _ _ _ _ _ W.drew
    refine ag5 0 (sL (some ⟨w.heap.size+1,0,none⟩) B.links.length B.links.length) ?_ (hr:=by go_simp);refine ag5 1 (pN (some ⟨wr.heap.size,1,none⟩)) ?_ (hr:=by go_simp);refine ag5 2 (iN qi b) ?_ (hr:=by go_simp);refine ag5 3 (iN qi (bj:Int)) ?_ (hr:=by go_simp);refine ag5 4 (sL (some ⟨w.heap.size+1,0,none⟩) B.links.length B.links.length) ?_ (hr:=by go_simp);refine ag5 5 (pN (some ⟨wr.heap.size,1,none⟩)) ?_ (hr:=by go_simp);refine ag5 6 (iN qi b) ?_ (hr:=by go_simp);refine ag5 7 (iN qi (bj:Int)) ?_ (hr:=by go_simp);refine ag5 8 (pN (some ⟨w.heap.size+1,bj,none⟩)) ?_ (hr:=by go_simp);refine ag5 9 (iN qi (f bj)) ?_ (hr:=by go_simp);refine ag5 10 (sL (some ⟨cb,co,none⟩) B.pairs.length cc) ?_ (hr:=by go_simp);refine ag5 11 (iN qi (k:Int)) ?_ (hr:=by go_simp);refine ag5 12 (pN (some ⟨cb,co+k,none⟩)) ?_ (hr:=by go_simp);refine ag5 13 (iN qi n) ?_ (hr:=by go_simp);refine ag5 14 (iN qi (f bj+n)) ?_ (hr:=by go_simp);refine ag5 15 (pN (some ⟨w.heap.size+1,bj,none⟩)) ?_ (hr:=by go_simp);simp only[Act.put,List.setIfInBounds_toArray];refine⟨by kernel_rfl,by kernel_rfl,wpOp_step rfl fun K hK=> ?_⟩;go_simp;refine hK _ _ ?_;clear hK;have HR6:=lH (HR2.out.set bj (f bj+n));generalize hW6:W.setCell ⟨w.heap.size+1,bj,none⟩ (iN qi (f bj+n))=W6 at *;clear hW6;go_wp2;go_roundw
    case rel=>exact⟨k+1,by omega,by go_num,by
     rw[Hf.out];unfold Bk.go;rw[if_pos rfl,Hbt.out];exact HR6.out.drew⟩
    case measure=>simp[intOf];omega
   ·have ha1:1<=a:=by omega
    obtain⟨ajj,haj⟩: ∃j:Nat,(j:Int)=a-1:=⟨(a-1).toNat,Int.toNat_of_nonneg (by omega)⟩;have hal:ajj<B.links.length:=by omega
    have Hat1:Hid ((a-1).toNat=ajj):=lH (by omega);have hdb:=pF B hB a b;have hs0:w.heap.size<wr.heap.size:=by omega
    have hcbz:=World.block_lt_of_cell? _ _ hcw;have hx10:=HR.out.b0;have hx11:=HR.out.b1;have hx12:=HR.out.b2;have HB2:=lH ((Below.refl wr.heap.size wr).alloc (nR _) (.cells #[iN qi a,iN qi b,sL sa cn sc] 56));have HR2:=lH (HR.out.step HB2.out);have HBJ:=lH hbj;have HAJ:=lH haj;clear hbj haj
    go_wp2_with fail
    refine(c94 ⟨ta,la,some ⟨pb,po,none⟩,tc,lc,pc⟩ B hB a b _ (Hat.out.below HR2.out.below (nR _))).mono ?_;rintro e w3 ⟨rfl,hb3⟩;have HR3:=lH (HR2.out.step hb3);have q0:w3.cell? ⟨wr.heap.size,0,none⟩=some (iN qi a):=by rw[(ak hb3).1 _ _ (by simp)];go_simp
    have q1:w3.cell? ⟨wr.heap.size,1,none⟩=some (iN qi b):=by rw[(ak hb3).1 _ _ (by simp)];go_simp
    have hcw3:=aoF HR3.out.below hcc (nR _);clear hb3 hx10 hx11 hx12 hcw;unfold Bk.go at Hf;rw[if_neg ha] at Hf;generalize B.direct a b=dv at *;obtain⟨oa,oaf⟩:=HR3.out.out ajj hal;obtain⟨fa0,fa1⟩:0<=f ajj/\f ajj<=30:=by have:=Hfb.out ajj;omega
    have w1:IntKind.wrap qi (b-1)=(bj:Int):=(IntWalk.i64_in _ (by omega)).trans HBJ.out.symm;have w2:IntKind.wrap qi (a-1)=(ajj:Int):=(IntWalk.i64_in _ (by omega)).trans HAJ.out.symm;have hba: ¬bj=ajj:=by have h1:=HBJ.out;have h2:=HAJ.out;omega
    have hbl2:(bj:Int)<(B.links.length:Int):=by omega
    have hal2:(ajj:Int)<(B.links.length:Int):=by omega
    have hkl2:(k:Int)<(B.pairs.length:Int):=by omega
    rcases hdb with hdv |⟨hd0,hd1⟩
    ·subst hdv;have w3n:IntKind.wrap qi (f ajj+n)=f ajj+n:=IntWalk.i64_in _ (by omega);have w4n:IntKind.wrap qi (f bj+n)=f bj+n:=IntWalk.i64_in _ (by omega)
     go_wp2_with fail
     refine ahn 13 13 (by kernel_rfl) ?_
     change LaB _ _ _ _ _ _ _ (World.drew w3)
     refine ag5 0 (sL (some ⟨w.heap.size+1,0,none⟩) B.links.length B.links.length) ?_ (hr:=by go_simp);refine ag5 1 (pN (some ⟨wr.heap.size,0,none⟩)) ?_ (hr:=by go_simp);refine ag5 2 (iN qi a) ?_ (hr:=by go_simp);refine ag5 3 (iN qi (ajj:Int)) ?_ (hr:=by go_simp);refine ag5 4 (sL (some ⟨w.heap.size+1,0,none⟩) B.links.length B.links.length) ?_ (hr:=by go_simp);refine ag5 5 (pN (some ⟨wr.heap.size,0,none⟩)) ?_ (hr:=by go_simp);refine ag5 6 (iN qi a) ?_ (hr:=by go_simp);refine ag5 7 (iN qi (ajj:Int)) ?_ (hr:=by go_simp);refine ag5 8 (pN (some ⟨w.heap.size+1,ajj,none⟩)) ?_ (hr:=by go_simp);refine ag5 9 (iN qi (f ajj)) ?_ (hr:=by go_simp);refine ag5 10 (iN qi n) ?_ (hr:=by go_simp);refine ag5 11 (iN qi (f ajj+n)) ?_ (hr:=by go_simp);refine ag5 12 (pN (some ⟨w.heap.size+1,ajj,none⟩)) ?_ (hr:=by go_simp);simp only[Act.put,List.setIfInBounds_toArray];refine⟨by kernel_rfl,by kernel_rfl,wpOp_step rfl fun K hK=> ?_⟩;go_simp;refine hK _ _ ?_;clear hK;have HR4:=lH (HR3.out.set ajj (f ajj+n)).drew;have q1b:(w3.setCell ⟨w.heap.size+1,ajj,none⟩ (iN qi (f ajj+n))).drew.cell? ⟨wr.heap.size,1,none⟩=some (iN qi b):=(wF _ _ _ _ (show w.heap.size+1≠wr.heap.size by omega)).trans q1;generalize hW4:(w3.setCell ⟨w.heap.size+1,ajj,none⟩ (iN qi (f ajj+n))).drew=W4 at *;clear hW4 q0 q1 oa oaf;obtain⟨ob,obf⟩:=HR4.out.out bj hbl;rw[dQ _ _ hba] at ob
     go_wp2_with fail
     refine ahn 13 13 (by kernel_rfl) ?_
     change LaB _ _ _ _ _ _ _ (World.drew W4)
     refine ag5 0 (sL (some ⟨w.heap.size+1,0,none⟩) B.links.length B.links.length) ?_ (hr:=by go_simp);refine ag5 1 (pN (some ⟨wr.heap.size,1,none⟩)) ?_ (hr:=by go_simp);refine ag5 2 (iN qi b) ?_ (hr:=by go_simp);refine ag5 3 (iN qi (bj:Int)) ?_ (hr:=by go_simp);refine ag5 4 (sL (some ⟨w.heap.size+1,0,none⟩) B.links.length B.links.length) ?_ (hr:=by go_simp);refine ag5 5 (pN (some ⟨wr.heap.size,1,none⟩)) ?_ (hr:=by go_simp);refine ag5 6 (iN qi b) ?_ (hr:=by go_simp);refine ag5 7 (iN qi (bj:Int)) ?_ (hr:=by go_simp);refine ag5 8 (pN (some ⟨w.heap.size+1,bj,none⟩)) ?_ (hr:=by go_simp);refine ag5 9 (iN qi (f bj)) ?_ (hr:=by go_simp);refine ag5 10 (iN qi n) ?_ (hr:=by go_simp);refine ag5 11 (iN qi (f bj+n)) ?_ (hr:=by go_simp);refine ag5 12 (pN (some ⟨w.heap.size+1,bj,none⟩)) ?_ (hr:=by go_simp);simp only[Act.put,List.setIfInBounds_toArray];refine⟨by kernel_rfl,by kernel_rfl,wpOp_step rfl fun K hK=> ?_⟩;go_simp;refine hK _ _ ?_;clear hK;have HR6:=lH (HR4.out.set bj (f bj+n)).drew;generalize hW6:(W4.setCell ⟨w.heap.size+1,bj,none⟩ (iN qi (f bj+n))).drew=W6 at *;clear hW6;go_wp2;go_roundw
     case rel=>exact⟨k+1,by omega,by go_num,by
      rw[Hf.out,Hbt.out,Hat1.out,if_neg (by decide),if_neg (by decide),dQ _ _ hba,Int.sub_zero];exact HR6.out⟩
     case measure=>simp[intOf];omega
    ·unfold Bk.spokes at hd0;obtain⟨kd,rfl⟩:=Int.eq_ofNat_of_zero_le (show 0<=dv by omega);have hkl:kd<B.links.length:=by omega
     have hak: ¬ajj=kd:=by have h1:=HBJ.out;have h2:=HAJ.out;omega
     have hbk: ¬bj=kd:=by have h1:=HBJ.out;have h2:=HAJ.out;omega
     obtain⟨tb,tofs,rfl,htc⟩:=HX.out kd _ (lG (show kd<xs.length by omega));rw[afb (by omega)] at htc;have htk:=aoF HR3.out.below htc (nR _);have hTk:=hT0 kd;obtain⟨ok,okf⟩:=HR3.out.out kd hkl;obtain⟨m,hm⟩: ∃m,m=min n (trk xs kd):=⟨_,rfl⟩;have Hf2:Hid (B.loadTo (trk xs) (trk cs) (k+1)=fup (fup (fup f kd m) ajj (f ajj+(n-m))) bj (f bj+(n-m))):=lH (by rw[Hf.out,Hbt.out,Hat1.out];dsimp only;rw[if_pos (show (0 :Int)<=(kd:Int) by omega),if_pos (show (0 :Int)<=(kd:Int) by omega),Int.toNat_natCast,<-hm,dQ _ _ hba,dQ _ _ hak,dQ _ _ hbk]);clear Hf;generalize trk xs kd=tk at *;have hmb:0<=m/\m<=n:=by omega
     have wmin:(if tk<n then tk else n)=m:=by split<;>omega
     obtain⟨ov,hov⟩: ∃ov,ov=n-m:=⟨_,rfl⟩;rw[<-hov] at Hf2;have wov:IntKind.wrap qi (n-m)=ov:=(IntWalk.i64_in _ (by omega)).trans hov.symm;have w3n:IntKind.wrap qi (f ajj+ov)=f ajj+ov:=IntWalk.i64_in _ (by omega);have w4n:IntKind.wrap qi (f bj+ov)=f bj+ov:=IntWalk.i64_in _ (by omega);have hkl3:(kd:Int)<(B.links.length:Int):=by omega
     have HM:=lH hm;have HOV:=lH hov;clear hm hov htc
     go_wp2_with fail
     refine ahn 12 12 (by kernel_rfl) ?_
     change LaB _ _ _ _ _ _ _ (World.drew w3)
     refine ag5 0 (sL (some ⟨w.heap.size+1,0,none⟩) B.links.length B.links.length) ?_ (hr:=by go_simp);refine ag5 1 (iN qi (kd:Int)) ?_ (hr:=by go_simp);refine ag5 2 (sL (some ⟨cb,co,none⟩) B.pairs.length cc) ?_ (hr:=by go_simp);refine ag5 3 (iN qi (k:Int)) ?_ (hr:=by go_simp);refine ag5 4 (pN (some ⟨cb,co+k,none⟩)) ?_ (hr:=by go_simp);refine ag5 5 (iN qi n) ?_ (hr:=by go_simp);refine ag5 6 (sL (some ⟨tb,tofs,none⟩) B.links.length xc) ?_ (hr:=by go_simp);refine ag5 7 (iN qi (kd:Int)) ?_ (hr:=by go_simp);refine ag5 8 (pN (some ⟨tb,tofs+kd,none⟩)) ?_ (hr:=by go_simp);refine ag5 9 (iN qi tk) ?_ (hr:=by go_simp);refine ag5 10 (iN qi m) ?_ (hr:=by go_simp);refine ag5 11 (pN (some ⟨w.heap.size+1,kd,none⟩)) ?_ (hr:=by go_simp);simp only[Act.put,List.setIfInBounds_toArray];refine⟨by kernel_rfl,by kernel_rfl,wpOp_step rfl fun K hK=> ?_⟩;go_simp;refine hK _ _ ?_;clear hK;have HR4:=lH (HR3.out.set kd m).drew;have q0b:(w3.setCell ⟨w.heap.size+1,kd,none⟩ (iN qi m)).drew.cell? ⟨wr.heap.size,0,none⟩=some (iN qi a):=(wF _ _ _ _ (show w.heap.size+1≠wr.heap.size by omega)).trans q0;have q1b:(w3.setCell ⟨w.heap.size+1,kd,none⟩ (iN qi m)).drew.cell? ⟨wr.heap.size,1,none⟩=some (iN qi b):=(wF _ _ _ _ (show w.heap.size+1≠wr.heap.size by omega)).trans q1;have hcw4:=aoF HR4.out.below hcc (nR _);generalize hW4:(w3.setCell ⟨w.heap.size+1,kd,none⟩ (iN qi m)).drew=W4 at *;clear hW4 q0 q1 oa oaf ok okf hcw3 htk;have ok:=(HR4.out.out kd hkl).1;rw[BZ] at ok
     go_wp2_with fail
     refine ahn 9 9 (by kernel_rfl) ?_
     change LaB _ _ _ _ _ _ _ (World.drew W4)
     refine ag5 0 (sL (some ⟨cb,co,none⟩) B.pairs.length cc) ?_ (hr:=by go_simp);refine ag5 1 (iN qi (k:Int)) ?_ (hr:=by go_simp);refine ag5 2 (pN (some ⟨cb,co+k,none⟩)) ?_ (hr:=by go_simp);refine ag5 3 (iN qi n) ?_ (hr:=by go_simp);refine ag5 4 (sL (some ⟨w.heap.size+1,0,none⟩) B.links.length B.links.length) ?_ (hr:=by go_simp);refine ag5 5 (iN qi (kd:Int)) ?_ (hr:=by go_simp);refine ag5 6 (pN (some ⟨w.heap.size+1,kd,none⟩)) ?_ (hr:=by go_simp);refine ag5 7 (iN qi m) ?_ (hr:=by go_simp);refine ag5 8 (iN qi ov) ?_ (hr:=by go_simp);simp only[Act.put,List.setIfInBounds_toArray];refine⟨by kernel_rfl,by kernel_rfl,wpOp_step rfl fun K hK=> ?_⟩;go_simp;refine hK _ _ ?_;clear hK;have HR5:=lH HR4.out.drew;have q0c:W4.drew.cell? ⟨wr.heap.size,0,none⟩=some (iN qi a):=q0b;have q1c:W4.drew.cell? ⟨wr.heap.size,1,none⟩=some (iN qi b):=q1b;generalize hW5:W4.drew=W5 at *;clear hW5 q0b q1b ok hcw4;obtain⟨oa,oaf⟩:=HR5.out.out ajj hal;rw[dQ _ _ hak] at oa
     go_wp2_with fail
     refine ahn 13 13 (by kernel_rfl) ?_
     change LaB _ _ _ _ _ _ _ (World.drew W5)
     refine ag5 0 (sL (some ⟨w.heap.size+1,0,none⟩) B.links.length B.links.length) ?_ (hr:=by go_simp);refine ag5 1 (pN (some ⟨wr.heap.size,0,none⟩)) ?_ (hr:=by go_simp);refine ag5 2 (iN qi a) ?_ (hr:=by go_simp);refine ag5 3 (iN qi (ajj:Int)) ?_ (hr:=by go_simp);refine ag5 4 (sL (some ⟨w.heap.size+1,0,none⟩) B.links.length B.links.length) ?_ (hr:=by go_simp);refine ag5 5 (pN (some ⟨wr.heap.size,0,none⟩)) ?_ (hr:=by go_simp);refine ag5 6 (iN qi a) ?_ (hr:=by go_simp);refine ag5 7 (iN qi (ajj:Int)) ?_ (hr:=by go_simp);refine ag5 8 (pN (some ⟨w.heap.size+1,ajj,none⟩)) ?_ (hr:=by go_simp);refine ag5 9 (iN qi (f ajj)) ?_ (hr:=by go_simp);refine ag5 10 (iN qi ov) ?_ (hr:=by go_simp);refine ag5 11 (iN qi (f ajj+ov)) ?_ (hr:=by go_simp);refine ag5 12 (pN (some ⟨w.heap.size+1,ajj,none⟩)) ?_ (hr:=by go_simp);simp only[Act.put,List.setIfInBounds_toArray];refine⟨by kernel_rfl,by kernel_rfl,wpOp_step rfl fun K hK=> ?_⟩;go_simp;refine hK _ _ ?_;clear hK;have HR6:=lH (HR5.out.set ajj (f ajj+ov)).drew;have q1d:(W5.setCell ⟨w.heap.size+1,ajj,none⟩ (iN qi (f ajj+ov))).drew.cell? ⟨wr.heap.size,1,none⟩=some (iN qi b):=(wF _ _ _ _ (show w.heap.size+1≠wr.heap.size by omega)).trans q1c;generalize hW6:(W5.setCell ⟨w.heap.size+1,ajj,none⟩ (iN qi (f ajj+ov))).drew=W6 at *;clear hW6 q0c q1c oa oaf;obtain⟨ob,obf⟩:=HR6.out.out bj hbl;rw[dQ _ _ hba,dQ _ _ hbk] at ob
     go_wp2_with fail
     refine ahn 13 13 (by kernel_rfl) ?_
     change LaB _ _ _ _ _ _ _ (World.drew W6)
     refine ag5 0 (sL (some ⟨w.heap.size+1,0,none⟩) B.links.length B.links.length) ?_ (hr:=by go_simp);refine ag5 1 (pN (some ⟨wr.heap.size,1,none⟩)) ?_ (hr:=by go_simp);refine ag5 2 (iN qi b) ?_ (hr:=by go_simp);refine ag5 3 (iN qi (bj:Int)) ?_ (hr:=by go_simp);refine ag5 4 (sL (some ⟨w.heap.size+1,0,none⟩) B.links.length B.links.length) ?_ (hr:=by go_simp);refine ag5 5 (pN (some ⟨wr.heap.size,1,none⟩)) ?_ (hr:=by go_simp);refine ag5 6 (iN qi b) ?_ (hr:=by go_simp);refine ag5 7 (iN qi (bj:Int)) ?_ (hr:=by go_simp);refine ag5 8 (pN (some ⟨w.heap.size+1,bj,none⟩)) ?_ (hr:=by go_simp);refine ag5 9 (iN qi (f bj)) ?_ (hr:=by go_simp);refine ag5 10 (iN qi ov) ?_ (hr:=by go_simp);refine ag5 11 (iN qi (f bj+ov)) ?_ (hr:=by go_simp);refine ag5 12 (pN (some ⟨w.heap.size+1,bj,none⟩)) ?_ (hr:=by go_simp);simp only[Act.put,List.setIfInBounds_toArray];refine⟨by kernel_rfl,by kernel_rfl,wpOp_step rfl fun K hK=> ?_⟩;go_simp;refine hK _ _ ?_;clear hK;have HR7:=lH (HR6.out.set bj (f bj+ov)).drew;generalize hW7:(W6.setCell ⟨w.heap.size+1,bj,none⟩ (iN qi (f bj+ov))).drew=W7 at *;clear hW7;go_wp2;go_roundw
     case rel=>exact⟨k+1,by omega,by go_num,by rw[Hf2.out];exact HR7.out⟩
     case measure=>simp[intOf];omega
  ·have hke:k=B.pairs.length:=by omega
   have HR:=lH hR;have hs:=hR.size;have Hke:=lH hke;clear hke hR;go_wp2;go_ret;refine⟨w.heap.size+1,rfl,by omega,fun j hj=> ?_,HR.out.below⟩;have:=(HR.out.out j hj).1;rw[Hke.out] at this;exact this
theorem alF (B:Bk) (T c c':Nat->Int) (h: ∀i,i<B.pairs.length->c i=c' i): ∀n,n<=B.pairs.length->B.loadTo T c n=B.loadTo T c' n
 | 0,_=>rfl
 |n+1,hn=>by
  unfold Bk.loadTo;rw[alF B T c c' h n (by omega),h n (by omega)]
theorem alG (B:Bk) (T:Nat->Int) (most:Bool) (h:Nat):B.load T (trk (aey B most h B.pairs.length))=B.inn T most h:=
 alF B T _ _ (fun _ hi=>ae4 B most h hi) _ (nR _)
end Go.Proofs.YtaikibfkggglgaaGreatDoor
namespace Go.Proofs.YtaikibfkggglgaaGreatDoor
open Go.RowKit Go.Tp
section
variable {P:Program} {ops:Array Oper} {Q:Exit->Act->wD->Prop} {z:Nat} {S:wD->Prop}
def aji (ops:Array Oper):Nat->Nat->Nat->Bool
 | 0,_,_=>false
 |f+1,j,i=>((ops[j]?).map fun o=>o.after.any fun e=>Region.binds .any e&&(e.on==i||aji ops f e.on i)).getD false
def Shut (ops:Array Oper) (listed:Array Bool):Prop:= ∀(j:Nat) (o:Oper),ops[j]? =some o->listed.getD j false=true-> ∀e∈o.after,Region.binds .any e=true->listed.getD e.on false=true
def alz (ops:Array Oper) (listed:Array Bool):Bool:=(List.range ops.size).all fun j=> !listed.getD j false||((ops[j]?).map fun o=>o.after.all fun e=> !Region.binds .any e||listed.getD e.on false).getD true
theorem ajm {ops:Array Oper} {listed:Array Bool} (h:alz ops listed=true):Shut ops listed:=fun j o hj hl e he hb=>by
 unfold alz at h;rw[List.all_eq_true] at h;have h1:=h j (List.mem_range.2 (aS.1 hj).1);rw[hj,hl] at h1;simp only[Bool.not_true,Bool.false_or,Option.map_some,Option.getD_some,Array.all_eq_true] at h1;obtain⟨k,hk,rfl⟩:=Array.getElem_of_mem he;have h2:=h1 k hk;rw[hb] at h2;simpa using h2
theorem ajk {ops:Array Oper} {listed:Array Bool} (hs:Shut ops listed): ∀(f j i:Nat),(∀o,ops[j]? =some o-> ∀e∈o.after,Region.binds .any e=true->listed.getD e.on false=true)->aji ops f j i=true->listed.getD i false=true
 | 0,_,_,_,h=>by cases h
 |f+1,j,i,hj,h=>by
  unfold aji at h
  cases ho:ops[j]? with
  |none=>rw[ho] at h;cases h
  |some o=>
   rw[ho] at h;simp only[Option.map_some,Option.getD_some,Array.any_eq_true,Bool.and_eq_true,Bool.or_eq_true,beq_iff_eq] at h;obtain⟨k,hk,hb,h1⟩:=h;have hl:=hj o ho _ (Array.getElem_mem hk) hb
   rcases h1 with h1 |h1
   ·rw[<-h1];exact hl
   ·exact ajk hs f _ i (fun o2 ho2 e he hb2=>hs _ o2 ho2 hl e he hb2) h1
theorem ajl {listed:Array Bool} {j k:Nat} (h:listed.getD k false=true):(listed.setIfInBounds j true).getD k false=true:=by
 by_cases c:j=k
 ·subst c
  rcases Nat.lt_or_ge j listed.size with h' |h'
  ·simp[h']
  ·simp[Array.getElem?_eq_none h'] at h
 ·rcases Nat.lt_or_ge k listed.size with h' |h'
  ·simp[h',c] at h ⊢; exact h
  ·simp[Array.getElem?_eq_none h'] at h
theorem ajn {ops:Array Oper} {listed:Array Bool} (hs:Shut ops listed) {j:Nat} (hj: ∀o,ops[j]? =some o-> ∀e∈o.after,Region.binds .any e=true->listed.getD e.on false=true):Shut ops (listed.setIfInBounds j true):=fun k o hk hl e he hb=>by
 by_cases c:j=k
 ·subst c;exact ajl (hj o hk e he hb)
 ·refine ajl (hs k o hk ?_ e he hb)
  rcases Nat.lt_or_ge k listed.size with h' |h'
  ·simp[h',c] at hl ⊢; exact hl
  ·have e2:(listed.setIfInBounds j true).getD k false=false:=by
    simp only[Array.getD_eq_getD_getElem?];rw[Array.getElem?_eq_none (by simpa using h')];rfl
   rw[e2] at hl
   cases hl
def ah6 (P:Program) (K:vL->wD->Prop):Result Next->Prop
 | .ok (.value v) w'=>K v w'
 | .ok .skip w'=>K undef w'
 | .ok (.enter f args) w'=>Calls P f args w' fun e w''=> ∃v,e= .returned v/\K v w''
 |_=>False
def ahO (P:Program) (o:Oper) (a:Act) (w:wD) (K:vL->wD->Prop):Prop:=ah6 P K ((execOp a.eval o).run P w)
theorem ahO.mono {o:Oper} {a:Act} {w:wD} {K K':vL->wD->Prop} (h:ahO P o a w K) (hk: ∀v w',K v w'->K' v w'):ahO P o a w K':=by
 unfold ahO at *;generalize (execOp a.eval o).run P w=r at *
 cases r with
 |ok n w'=>
  cases n<;>simp only[ah6] at h ⊢ <;>
   first
    |exact hk _ _ h
    |exact h.mono fun e w'' ⟨v,e1,k⟩=>⟨v,e1,hk _ _ k⟩
 |halt x w'=>exact h
theorem ahO.wp {o:Oper} {a:Act} {w:wD} {K:Act->wD->Prop} (h:ahO P o a w fun v w'=>K (a.put o.dst v) w'):o.wp P a w K Q:=by
 unfold ahO at h;unfold Oper.wp;generalize (execOp a.eval o).run P w=r at *
 cases r with
 |ok n w'=>
  cases n<;>simp only[ah6,Oper.upon] at h ⊢ <;>
   first
    |exact h
    | (refine h.mono ?_;rintro e w'' ⟨v,rfl,k⟩;exact k)
 |halt x w'=>exact h.elim
def LaS (P:Program) (ops:Array Oper) (Q:Exit->Act->wD->Prop) (z:Nat) (S:wD->Prop):Nat->Array Bool->Act->wD->Prop
  | 0,listed,a,w=>Region.ready .any ops listed= []/\Q .normal a w
  |n+1,listed,a,w=>Region.ready .any ops listed≠ []/\ ∀i∈Region.ready .any ops listed,∃o,ops[i]? =some o/\
      ((Region.wanted o (yielded ops a.tmps)=false/\LaS P ops Q z S n (listed.setIfInBounds i true) (a.put o.dst undef) w)\/
       (Region.wanted o (yielded ops a.tmps)=true/\ahO P o a w fun v w'=>(i≠z/\i≠z+1->S w')/\LaS P ops Q z S n (listed.setIfInBounds i true) (a.put o.dst v) w'))
theorem ah7: ∀(n:Nat) (listed:Array Bool) (a:Act) (w:wD),LaS P ops Q z S n listed a w->wpAny P .any ops Q n listed a w
  | 0,_,_,_,h=>h
  |n+1,_,_,_,h=>⟨fun e=>absurd e h.1,fun i hi=>by
      obtain⟨o,ho,hh⟩:=h.2 i hi;unfold Go.wpOp;simp only[ho]
      rcases hh with ⟨hw,h2⟩ |⟨hw,h2⟩
      · simp only[hw,Bool.false_eq_true,if_false];exact ah7 n _ _ _ h2
      · simp only[hw,if_true]
        exact .inl (ahO.wp (h2.mono fun v w' k=>ah7 n _ _ _ k.2))⟩
theorem aiJ {i:Nat} {oi:Oper} {v:vL} (hi:ops[i]? =some oi) (hsel: ∀(j:Nat) (o:Oper) cs b,ops[j]? =some o->o.op≠ .select cs b) (hz:ops.size<=z\/ ∃f,aji ops f z i=true) (hz2:ops.size<=z+1\/ ∃f,aji ops f (z+1) i=true):
    ∀(n:Nat) (listed:Array Bool) (a:Act) (w:wD),Shut ops listed->
      (∀j oj,ops[j]? =some oj->j≠i->listed.getD j true=false->(∀e∈oj.after,Region.binds .any e=true->e.on≠i)->oi.apart ops oj=true)->
      i∈Region.ready .any ops listed->S w->Region.wanted oi (yielded ops a.tmps)=true->(∀u,S u->(execOp a.eval oi).run P u= .ok (.value v) u)->LaS P ops Q z S n (listed.setIfInBounds i true) (a.put oi.dst v) w->LaS P ops Q z S (n+1) listed a w:=by
  intro n
  induction n with
  |zero=>
    intro listed a w _ _ hr hS hw hy H;refine⟨fun h=>(by rw[h] at hr;cases hr),fun j hj=> ?_⟩;by_cases hji:j=i
    · subst hji
      refine⟨oi,hi,.inr ⟨hw, ?_⟩⟩;unfold ahO;rw[hy w hS];exact⟨fun _=>hS,H⟩
    · have h1:=ready_mono hj hji
      rw[H.1] at h1
      cases h1
  |succ n ih=>
    intro listed a w hsh hfree hr hS hw hy H;refine⟨fun h=>(by rw[h] at hr;cases hr),fun j hj=> ?_⟩;by_cases hji:j=i
    · subst hji
      refine⟨oi,hi,.inr ⟨hw, ?_⟩⟩;unfold ahO;rw[hy w hS];exact⟨fun _=>hS,H⟩
    · obtain⟨oj',hoj',H2⟩:=H.2 j (ready_mono hj hji)
      obtain⟨hjun,oj,hoj,hall⟩:=mem_ready.1 hj;have e1:oj'=oj:=Option.some.inj (hoj'.symm.trans hoj);rw[e1] at H2;have hun: ∀k,k=i->listed.getD k false=false:=fun k hk=>by
        subst hk;have h0:=(mem_ready.1 hr).1
        rcases Nat.lt_or_ge k listed.size with h' |h'
        · simp[h'] at h0 ⊢; exact h0
        · simp[Array.getElem?_eq_none h']
      have hnot: ∀e∈oj.after,Region.binds .any e=true->e.on≠i:=fun e he hb heq=>by
        have h1:=hall e he hb;rw[hun _ heq] at h1
        cases h1
      have hno: ∀y,(ops.size<=y\/ ∃f,aji ops f y i=true)->j≠y:=fun y hy e=>by
        subst e;have hjl:j<ops.size:=(aS.1 hoj).1
        rcases hy with hy |⟨f,hy⟩
        · omega
        · have:=ajk hsh f j i (fun o ho e he hb=>by rw[hoj] at ho;cases ho;exact hall e he hb) hy
          rw[hun i rfl] at this
          cases this
      have hjz:j≠z/\j≠z+1:=⟨hno z hz,hno (z+1) hz2⟩;obtain⟨h1,h2,h3⟩:=Oper.apart_spec (hfree j oj hoj hji hjun hnot);have hwj:Region.wanted oj (yielded ops (a.put oi.dst v).tmps)=Region.wanted oj (yielded ops a.tmps):=wanted_put oj a oi.dst v h1;have hej:execOp (a.put oi.dst v).eval oj=execOp a.eval oj:=execOp_put oj (fun cs b=>hsel j oj cs b hoj) a oi.dst v h1;have hfree': ∀k ok,ops[k]? =some ok->k≠i->(listed.setIfInBounds j true).getD k true=false->
          (∀e∈ok.after,Region.binds .any e=true->e.on≠i)->oi.apart ops ok=true:=fun k ok hk hki hun' hno=>by
        refine hfree k ok hk hki ?_ hno;by_cases hjk:j=k
        · subst hjk;exact hjun
        · rw[getD_set_ne true hjk] at hun';exact hun'
      have key: ∀(vj:vL) (w':wD),S w'->LaS P ops Q z S n ((listed.setIfInBounds i true).setIfInBounds j true) ((a.put oi.dst v).put oj.dst vj) w'->LaS P ops Q z S (n+1) (listed.setIfInBounds j true) (a.put oj.dst vj) w':=fun vj w' hS' k=>by
        refine ih (listed.setIfInBounds j true) (a.put oj.dst vj) w' (ajn hsh fun o ho e he hb=>by rw[hoj] at ho;cases ho;exact hall e he hb) hfree' (ready_mono hr (Ne.symm hji)) hS' ?_ (fun u hu=> ?_) ?_
        · rw[wanted_put oi a oj.dst vj h3];exact hw
        · rw[execOp_put oi (fun cs b=>hsel i oi cs b hi) a oj.dst vj h3];exact hy u hu
        · rw[Array.setIfInBounds_comm _ _ hji,<-Act.put_comm a v vj h2]
          exact k
      refine⟨oj,hoj, ?_⟩
      rcases H2 with ⟨hw2,k⟩ |⟨hw2,k⟩
      · exact .inl ⟨hwj.symm.trans hw2,key _ _ hS k⟩
      · refine .inr ⟨hwj.symm.trans hw2, ?_⟩
        unfold ahO at k ⊢;rw[hej] at k;exact ahO.mono (o:=oj) (a:=a) (w:=w) k fun vj w' hk=>⟨hk.1,key vj w' (hk.1 hjz) hk.2⟩
theorem ahN (i:Nat) {o:Oper} (v:vL) {n:Nat} {listed:Array Bool} {a:Act} {w:wD} (hS:S w) (h:LaS P ops Q z S n (listed.setIfInBounds i true) (a.put o.dst v) w) (ho:ops[i]? =some o:=by rfl) (hw:Region.wanted o (yielded ops a.tmps)=true:=by rfl) (hr: ∀u,S u->(execOp a.eval o).run P u= .ok (.value v) u)
  (hs:Region.noSelect ops=true:=by kernel_rfl) (hf:Region.free .any ops listed i=true:=by kernel_rfl) (hc:(Region.ready .any ops listed).contains i=true:=by kernel_rfl) (hsh:alz ops listed=true:=by kernel_rfl) (hz:ops.size<=z\/ ∃f,aji ops f z i=true:=by first | (refine .inl ?_;decide) | (refine .inr ⟨1, ?_⟩;decide+kernel) | (refine .inr ⟨2, ?_⟩;decide+kernel) | (refine .inr ⟨3, ?_⟩;decide+kernel) | (refine .inr ⟨6, ?_⟩;decide+kernel)) (hz2:ops.size<=z+1\/ ∃f,aji ops f (z+1) i=true:=by first | (refine .inl ?_;decide) | (refine .inr ⟨1, ?_⟩;decide+kernel) | (refine .inr ⟨2, ?_⟩;decide+kernel) | (refine .inr ⟨3, ?_⟩;decide+kernel) | (refine .inr ⟨6, ?_⟩;decide+kernel)):LaS P ops Q z S (n+1) listed a w:=
 aiJ ho (Region.noSelect_spec hs) hz hz2 n listed a w (ajm hsh) (Region.free_spec ho hf) (by simpa using hc) hS hw hr h
theorem ahQ (i:Nat) {o:Oper} {n:Nat} {listed:Array Bool} {a:Act} {w:wD} (ho:ops[i]? =some o:=by rfl) (hw:Region.wanted o (yielded ops a.tmps)=true:=by rfl) (hc:Region.ready .any ops listed= [i]:=by kernel_rfl) (h:ahO P o a w fun v w'=>(i≠z/\i≠z+1->S w')/\LaS P ops Q z S n (listed.setIfInBounds i true) (a.put o.dst v) w'):LaS P ops Q z S (n+1) listed a w:=
 ⟨by rw[hc];exact List.cons_ne_nil _ _,fun j hj=>by
  rw[hc,List.mem_singleton] at hj;subst hj;exact⟨o,ho,.inr ⟨hw,h⟩⟩⟩
theorem aie (i j:Nat) {oi oj:Oper} {n:Nat} {listed:Array Bool} {a:Act} {w:wD} (h1:ahO P oi a w fun v w'=>(i≠z/\i≠z+1->S w')/\LaS P ops Q z S n (listed.setIfInBounds i true) (a.put oi.dst v) w') (h2:ahO P oj a w fun v w'=>(j≠z/\j≠z+1->S w')/\LaS P ops Q z S n (listed.setIfInBounds j true) (a.put oj.dst v) w')
  (hoi:ops[i]? =some oi:=by rfl) (hoj:ops[j]? =some oj:=by rfl) (hwi:Region.wanted oi (yielded ops a.tmps)=true:=by rfl) (hwj:Region.wanted oj (yielded ops a.tmps)=true:=by rfl) (hc:Region.ready .any ops listed= [i,j]:=by kernel_rfl):LaS P ops Q z S (n+1) listed a w:=
 ⟨by rw[hc];exact List.cons_ne_nil _ _,fun k hk=>by
  rw[hc,List.mem_cons,List.mem_singleton] at hk
  rcases hk with rfl |rfl
  ·exact⟨oi,hoi,.inr ⟨hwi,h1⟩⟩
  ·exact⟨oj,hoj,.inr ⟨hwj,h2⟩⟩⟩
theorem aif {id:Nat} {a:Act} {w:wD} (z n:Nat) (S:wD->Prop) (hm:P.follows .mixedOrders=true) (h:LaS P ops Q z S n (Array.replicate n false) a w.drew) (hn:ops.size=n:=by rfl):(Code.region id ops true).wp P Q a w:=
 wp_region_any hm (by rw[hn];exact ah7 _ _ _ _ h)
theorem ahZ {listed:Array Bool} {a:Act} {w:wD} (h:Q .normal a w) (hr:Region.ready .any ops listed= []:=by kernel_rfl):LaS P ops Q z S 0 listed a w:=⟨hr,h⟩
theorem ah0 {o:Oper} {a:Act} {w w':wD} {v:vL} {K:vL->wD->Prop} (hr:(execOp a.eval o).run P w= .ok (.value v) w') (h:K v w'):ahO P o a w K:=by unfold ahO;rw[hr];exact h
theorem ah1 {o:Oper} {a:Act} {w w':wD} {K:vL->wD->Prop} (hr:(execOp a.eval o).run P w= .ok .skip w') (h:K undef w'):ahO P o a w K:=by unfold ahO;rw[hr];exact h
theorem ahW {o:Oper} {a:Act} {w w':wD} {f:FuncId} {args:Array vL} {K:vL->wD->Prop} (hr:(execOp a.eval o).run P w= .ok (.enter f args) w') (h:Calls P f args w' fun e w''=> ∃v,e= .returned v/\K v w''):ahO P o a w K:=by unfold ahO;rw[hr];exact h
theorem ajp {o:Oper} {rest:List Oper} {a:Act} {w:wD} (hw:Region.wanted o (yielded ops a.tmps)=true:=by rfl) (h:ahO P o a w fun v w'=>wpList P ops Q rest (a.put o.dst v) w'):wpList P ops Q (o::rest) a w:=by
 unfold wpList;rw[if_pos hw];exact .inl h.wp
theorem aii {o:Oper} {a:Act} {w:wD} {K:vL->wD->Prop} (s x:Operand) (t:TypeId)
  (ho:o.op= .call {callee:= .builtin .append,args:= #[s,x],argTypes:= #[t,t]})
  (base:Nat) (e:TypeId) (i:TypeInfo) (z:vL) (size bytes:Nat) (ht:P.underlying t=some (.slice e)) (hi:P.info? e=some i) (hz:i.zero=some z)
  (hsize:i.size=size) (hby:i.bytes=bytes) (hzs:z.cells.size=size) (hsz:0<size)
  (v:vL) (n:Nat) (xs:List vL) (hs:a.eval s=v) (hown:w.ownsRow base e size v n xs)
  (ad:Addr) (m c:Nat) (news:List vL) (hx:a.eval x= sL (some ad) m c) (hl:news.length=m*size) (hnews: ∀j u,news[j]? =some u->w.cell? (ad.add j)=some u) (h1: ∀u∈news,u.oneCell'=true)
  (h63:n+m<=maxLen) (hbytes:(n+m)*bytes<=140737488355328) (hbase:base<=w.heap.size)
  (h: ∀v' w',w'.ownsRow base e size v' (n+m) (xs++news)->w.grownBy w' v.ownBlock->(v'= sL none 0 0↔v= sL none 0 0/\m=0)->K v' w'):ahO P o a w K:=by
 obtain⟨v',w',hr,h2,h3,h4⟩:=run_append_own (P:=P) w base t o.type e i z size bytes ht hi hz hsize hby hzs hsz v n xs hown ad m c news hl hnews h1 h63 hbytes hbase;unfold ahO execOp;simp only[ho,resolve,invoke,builtin,Sem.run_bind,Sem.run_pure,Result.andThen_ok,List.map_toArray,List.map_cons,List.map_nil,hs,hx,hr];exact h v' w' h2 h3 h4
end
end Go.Proofs.YtaikibfkggglgaaGreatDoor
namespace Go.Proofs.YtaikibfkggglgaaGreatDoor
open Go.RowKit Go.Rent Go.Tp Go.Conc
theorem alu (V:BkV) (B:Bk) (hG:Good B) (most:Bool) {w:wD} (hs:aB w V B) (k:Nat) (hk:(k:Int)<B.hours) (u:wD) (hu:Below w.heap.size w u):
  Calls Tryz.prog 100 #[V.val B,iN qi (k:Int),.bool most] u fun e u'=> ∃ea ec,e= .returned (sL ea B.pairs.length ec)/\SlI u' ea (aey B most k B.pairs.length)/\Below u.heap.size u u':=
 (c60 V B most k u (hs.below hu (nR _)) hG hk).mono fun _ _ ⟨v,e1,ho,hb⟩=>by
  obtain⟨ca,cc,e2,h⟩:=aeU (by simp[aey]) ho;subst e2;exact⟨ca,cc,e1,h,hb⟩
theorem alJ (B:Bk) (hB:B.Fine) (most:Bool) (h k:Nat):0<=trk (aey B most h B.pairs.length) k/\trk (aey B most h B.pairs.length) k<=5:=by
 by_cases hk:k<B.pairs.length
 ·rw[ae4 B most h hk];exact Gj B hB most h k
 ·unfold trk;rw[lD,List.getElem?_eq_none (by simp[aey];omega)];simp
theorem alx (V:BkV) (B:Bk) (hB:B.Fine) (most:Bool) (k:Nat) {w:wD} (hat:bT w V B) (xs:List Int) (xa:Option Addr) (xc:Nat) (hx:SlI w xa xs) (hxl:xs.length=B.links.length) (hT0: ∀k,0<=trk xs k/\trk xs k<=20) (ea:Option Addr) (ec:Nat) (u:wD) (hu:Below w.heap.size w u) (he:SlI u ea (aey B most k B.pairs.length)):
  Calls Tryz.prog 122 #[V.val B,sL xa B.links.length xc,sL ea B.pairs.length ec] u fun e u'=> ∃g,e= .returned (sL (some ⟨g,0,none⟩) B.links.length B.links.length)/\u.heap.size<=g/\(∀j,j<B.links.length->u'.cell? ⟨g,j,none⟩=some (iN qi (B.inn (trk xs) most k j)))/\Below u.heap.size u u':=
 (c59 V B hB xs _ xa ea xc ec u (hat.below hu (nR _)) (hx.below hu (nR _)) hxl he (by simp[aey]) hT0 (alJ B hB most k)).mono fun _ _ ⟨g,e1,hg,hc,hb⟩=>⟨g,e1,hg,by rw[alG] at hc;exact hc,hb⟩
end Go.Proofs.YtaikibfkggglgaaGreatDoor
