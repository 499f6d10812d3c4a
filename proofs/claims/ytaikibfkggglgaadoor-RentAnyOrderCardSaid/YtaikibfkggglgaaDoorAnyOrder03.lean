/- A part of the proof of a law; no conditions of its own. -/
import Derived.Test.YtaikibfkggglgaaDoorAnyOrder02
import Derived.Deep.Heap
set_option maxRecDepth 100000
open Nat renaming le_refl→nR
open Go.Proofs.Tryd renaming prog→tP
open List renaming getElem?_eq_some_iff→lS
open Go.World renaming block_lt_of_cell?→wBk
open Go.World renaming cell?_setCell_other→wO
open List renaming getD_eq_getElem?_getD→lD
set_option maxHeartbeats 4000000
namespace Go.Proofs.YtaikibfkggglgaaDoor
open Go.RowKit Go.Rent Go.Tp Go.Conc
def aj2 {α:Type} (l:List α) (s k:Nat):List α:=l.take s++l.reverse.take k
def aj3 (s n j:Nat):Nat:=if j<s then j else s+n-1-j
theorem flip_flip {s n j:Nat} (h:j<n):aj3 s n (aj3 s n j)=j:=by
 unfold aj3;by_cases c:j<s
 ·rw[if_pos c,if_pos c]
 ·rw[if_neg c,if_neg (by omega)];omega
theorem akf {s n j:Nat} (h:j<n):aj3 s n j<n/\(s<=j->s<=aj3 s n j)/\(j<s->aj3 s n j=j):=by
 unfold aj3;by_cases c:j<s
 ·rw[if_pos c];exact⟨h,fun _=>by omega,fun _=>rfl⟩
 ·rw[if_neg c];exact⟨by omega,fun _=>by omega,fun _=>by omega⟩
section
variable {α:Type} {l:List α} {s:Nat}
theorem aku {k:Nat} {x:α} (h:l[l.length-1-k]? =some x) (hk:k<l.length):aj2 l s (k+1)=aj2 l s k++ [x]:=by
 unfold aj2;have hx:l.reverse[k]? =some x:=by rw[List.getElem?_reverse hk];exact h
 obtain⟨h1,h2⟩:=lS.1 hx;rw[List.take_succ_eq_append_getElem h1,h2,List.append_assoc]
theorem akv (hs:s<=l.length):(aj2 l s (l.length-s)).length=l.length:=by
 unfold aj2;rw[List.length_append,List.length_take,List.length_take,List.length_reverse];omega
theorem akw (hs:s<=l.length) {j:Nat} (hj:j<l.length):(aj2 l s (l.length-s))[j]? =l[aj3 s l.length j]? :=by
 unfold aj2 aj3;by_cases c:j<s
 ·rw[if_pos c,List.getElem?_append_left (by rw[List.length_take];omega),List.getElem?_take,if_pos c]
 ·rw[if_neg c,List.getElem?_append_right (by rw[List.length_take];omega),List.length_take,List.getElem?_take,if_pos (by omega),List.getElem?_reverse (by omega)]
  congr 1
  omega
end
def aj6 (B:Bk):Bk:={B with links:=aj2 B.links B.spokes (B.links.length-B.spokes),pairs:=aj2 B.pairs 0 (B.pairs.length-0)}
section
variable {B:Bk} (hB:B.alarm=0)
include hB
theorem akb:(aj6 B).links.length=B.links.length:=akv (gY hB).fine.links.1
theorem akm {j:Nat} (hj:j<B.links.length):(aj6 B).links[j]? =B.links[aj3 B.spokes B.links.length j]? :=akw (gY hB).fine.links.1 hj
omit hB in
theorem akh:(aj6 B).pairs.length=B.pairs.length:=akv (Nat.zero_le _)
omit hB in
theorem akC {j:Nat} (hj:j<B.pairs.length):(aj6 B).pairs[j]? =B.pairs[B.pairs.length-1-j]? :=by
 have:=akw (l:=B.pairs) (Nat.zero_le _) hj;unfold aj3 at this;rw[if_neg (by omega),Nat.zero_add] at this;exact this
theorem akk:(aj6 B).alarm=0:=by
 have hl:=(gY hB).fine.links.1;refine aiu hB rfl rfl (by rw[akb hB];exact hl) (by rw[akb hB];exact nR _) (by rw[akh];exact nR _) (aj3 B.spokes B.links.length) (fun j=>B.pairs.length-1-j) (fun j x hx=> ?_) (fun a b hab hb he=> ?_) (fun j x hx=> ?_) (fun a b hab hb=> ?_)
 ·have hj:=(lS.1 hx).1;rw[akb hB] at hj;rw[akm hB hj] at hx;obtain⟨_,h2,h3⟩:=akf (s:=B.spokes) hj;exact⟨hx,h3,h2⟩
 ·rw[akb hB] at hb;have h1:=flip_flip (s:=B.spokes) (show a<B.links.length by omega);have h2:=flip_flip (s:=B.spokes) hb;rw[he] at h1;omega
 ·have hj:=(lS.1 hx).1;rw[akh] at hj;rwa [akC hj] at hx
 ·rw[akh] at hb;omega
theorem akQ:Emb (aj6 B) B (aj3 B.spokes B.links.length):=
 ⟨akk hB,hB,rfl,rfl,fun j h1 h2=>by
  rw[akb hB] at h2;obtain⟨g1,g2,_⟩:=akf (s:=B.spokes) h2;refine⟨g2 h1,g1, ?_, ?_⟩
  ·show ((B.links[aj3 B.spokes B.links.length j]?).map Lnk.one).getD 0=(((aj6 B).links[j]?).map Lnk.one).getD 0
   rw[akm hB h2]
  ·show ((B.links[aj3 B.spokes B.links.length j]?).map Lnk.two).getD 0=(((aj6 B).links[j]?).map Lnk.two).getD 0
   rw[akm hB h2]⟩
theorem akD {T U:Nat->Int} (h: ∀j,j<B.links.length->U (aj3 B.spokes B.links.length j)=T j):Rel (aj6 B) B (aj3 B.spokes B.links.length) T U:=by
 have hl:=(gY hB).fine.links.1;refine⟨fun k hk=> ?_,fun j h1 h2=> ?_,fun k h1 h2 h3=> ?_⟩
 ·have hk':k<B.spokes:=hk;have:=h k (by omega);rwa [(akf (show k<B.links.length by omega)).2.2 hk'] at this
 ·rw[akb hB] at h2;exact h j h2
 ·obtain⟨g1,g2,_⟩:=akf (s:=B.spokes) h2;exact absurd (flip_flip h2) (h3 _ (g2 h1) (by rw[akb hB];exact g1))
theorem akR {T U:Nat->Int} (h: ∀j,j<B.links.length->U (aj3 B.spokes B.links.length j)=T j) (n:Int) {a b:Int} (hab:0<=a/\a<b/\b<B.towns.length) {k:Nat} (hk:k<B.links.length):
  incr B U n a b (aj3 B.spokes B.links.length k)=incr (aj6 B) T n a b k:=by
 have e:=akQ hB;have r:=akD hB h;by_cases c:k<B.spokes
 ·rw[(akf hk).2.2 c];exact e.add r n a b c
 ·obtain⟨g1,g2,_⟩:=akf (s:=B.spokes) hk;have g3:=g2 (by omega);have hsp:B.spokes=B.towns.length-1:=rfl;have d1:=aes hB a b (j:=aj3 B.spokes B.links.length k) g3 g1;have d2:=aes (akk hB) a b (j:=k) (show B.spokes<=k by omega) (by rw[akb hB];exact hk);obtain⟨_,_,r3,r4⟩:=e.rng k (show B.spokes<=k by omega) (by rw[akb hB];exact hk);rw[r3,r4,d2] at d1;unfold incr;rw[e.free r,if_neg (show ¬((aj3 B.spokes B.links.length k:Nat):Int)=b-1 by omega),if_neg (show ¬(((aj3 B.spokes B.links.length k:Nat):Int)=a-1\/((aj3 B.spokes B.links.length k:Nat):Int)=b-1) by omega),if_neg (show ¬((k:Nat):Int)=b-1 by omega),if_neg (show ¬(((k:Nat):Int)=a-1\/((k:Nat):Int)=b-1) by omega)];by_cases ha:a=0
  ·rw[if_pos ha,if_pos ha]
  ·rw[if_neg ha,if_neg ha];by_cases q:(aj6 B).direct a b=(k:Int)
   ·rw[if_pos q,if_pos (d1.1 q)]
   ·rw[if_neg q,if_neg (fun z=>q (d1.2 z))]
theorem akE {T U:Nat->Int} (h: ∀j,j<B.links.length->U (aj3 B.spokes B.links.length j)=T j) (m:Bool) (g:Nat) {k:Nat} (hk:k<B.links.length):B.inn U m g (aj3 B.spokes B.links.length k)=(aj6 B).inn T m g k:=by
 have hF:=(gY hB).fine;rw[aeE hB,aeE (akk hB),ah9,ah9,akh,<-akt];refine sumTo_congr _ fun i hi=> ?_;have hp:=akC (B:=B) hi;have e1:(aj6 B).pone i=B.pone (B.pairs.length-1-i):=by unfold Bk.pone;rw[hp]
 have e2:(aj6 B).ptwo i=B.ptwo (B.pairs.length-1-i):=by unfold Bk.ptwo;rw[hp]
 have e3:(aj6 B).call m g i=B.call m g (B.pairs.length-1-i):=by unfold Bk.call;rw[hp]
 rw[e1,e2,e3];exact akR hB h _ (hF.ends _ (by omega)) hk
theorem akx {T U:Nat->Int} (h: ∀j,j<B.links.length->U (aj3 B.spokes B.links.length j)=T j) (c:Int):aQ B U B.hours.toNat 0 c=aQ (aj6 B) T (aj6 B).hours.toNat 0 c:=by
 have hl:=(gY hB).fine.links.1;refine aiw (A:=aj6 B) (B:=B) rfl rfl (akD hB h).hub (fun m g k hk=> ?_) c;have hk':k<B.spokes:=hk;have:=akE hB h m g (show k<B.links.length by omega);rwa [(akf (show k<B.links.length by omega)).2.2 hk'] at this
theorem aky {T U:Nat->Int} (h: ∀j,j<B.links.length->U (aj3 B.spokes B.links.length j)=T j):fZ B U B.links.length=fZ (aj6 B) T B.links.length:=by
 have hl:=(gY hB).fine.links.1;have hk: ∀j,j<B.links.length->bH B (aj3 B.spokes B.links.length j:Nat) (U (aj3 B.spokes B.links.length j))=bH (aj6 B) (j:Int) (T j):=fun j hj=>by
  rw[h j hj];exact aix (akm hB hj).symm _
 obtain⟨m,hm⟩: ∃m,B.links.length=B.spokes+m:=⟨B.links.length-B.spokes,by omega⟩;rw[ahY,ahY];generalize B.links.length=n at *;subst hm;rw[ahX,ahX,<-akt m];have q1:sumTo (fun j=>bH B (j:Int) (U j)) B.spokes=sumTo (fun j=>bH (aj6 B) (j:Int) (T j)) B.spokes:=sumTo_congr _ fun j hj=>by
  have:=hk j (by omega);rwa [(akf (show j<B.spokes+m by omega)).2.2 hj] at this
 rw[q1]
 congr 1
 refine sumTo_congr _ fun i hi=> ?_;have:=hk (B.spokes+i) (by omega);rwa [show aj3 B.spokes (B.spokes+m) (B.spokes+i)=B.spokes+(m-1-i) by unfold aj3;rw[if_neg (by omega)];omega] at this
theorem akS:(aC (aj6 B) aT).2=(aC B aT).2:=by
 have hA:=akk hB;refine Int.le_antisymm ?_ ?_
 ·refine ah8 hB hA fun U hU _ _=> ?_;have h: ∀j,j<B.links.length->U (aj3 B.spokes B.links.length j)=(fun k=>U (aj3 B.spokes B.links.length k)) j:=fun _ _=>rfl;exact⟨_,fun k=>hU _,fun _ _ h=>(by cases h),fun c=>(akx hB h c).symm,by rw[akb hB];exact(aky hB h).symm⟩
 ·refine ah8 hA hB fun T hT _ _=> ?_;have h: ∀j,j<B.links.length->(fun k=>T (aj3 B.spokes B.links.length k)) (aj3 B.spokes B.links.length j)=T j:=fun j hj=>by dsimp only;rw[flip_flip hj]
  exact⟨_,fun k=>hT _,fun _ _ h=>(by cases h),fun c=>akx hB h c,by rw[akb hB];exact aky hB h⟩
end
theorem akT {xs:List Int} {s:Nat} (hs:s<=xs.length) {j:Nat} (hj:j<xs.length):trk xs (aj3 s xs.length j)=trk (aj2 xs s (xs.length-s)) j:=by
 unfold trk;rw[lD,lD,akw hs hj]
theorem RwV.rev {w:World} {l:List ahS} {vs:List (Int×Int×Value)} (h:RwV w l vs):RwV w l.reverse vs.reverse:=⟨by rw[List.length_reverse,List.length_reverse,h.len],fun i x hx=>by
 have hi:i<l.length:=by have:=(lS.1 hx).1;simpa using this
 rw[List.getElem?_reverse hi] at hx;obtain⟨sa,sc,h1,h2,h3⟩:=h.get _ x hx;exact⟨sa,sc,by rw[List.getElem?_reverse (by rw[h.len];exact hi),h.len];exact h1,h2,h3⟩⟩
theorem RwV.ord {w:World} {l:List ahS} {vs:List (Int×Int×Value)} (h:RwV w l vs) (s k:Nat):RwV w (aj2 l s k) (aj2 vs s k):=(h.take s).append (h.rev.take k)
theorem akF {α β:Type} (f:α->β) (l:List α) (s k:Nat):(aj2 l s k).map f=aj2 (l.map f) s k:=by
 unfold aj2;rw[List.map_append,List.map_take,List.map_take,List.map_reverse]
theorem aki {w:World} {n s m b o:Nat} {e:TypeId} {v:Value} {xs:List Value} (h:w.ownsRow n e s v m xs) (hb:b<n) (x:Value):(w.setCell ⟨b,o,none⟩ x).ownsRow n e s v m xs:=by
 obtain⟨h1,h2 |⟨g,cap,cur,e1,hg,hrow,h3⟩⟩:=h
 ·exact⟨h1,.inl h2⟩
 ·refine⟨h1,.inr ⟨g,cap,cur,e1,hg, ?_,h3⟩⟩;rw[Go.Deep.blk_setCell_other _ _ _ _ (show g≠b by omega)];exact hrow
theorem own_ne {w:World} {n n' s s' m m':Nat} {e e':TypeId} {v v':Value} {xs xs':List Value} (h:w.ownsRow n e s v m xs) (h':w.ownsRow n' e' s' v' m' xs') (hne:e≠e'):v'.ownBlock=none\/v'.ownBlock≠v.ownBlock:=by
 obtain⟨_,⟨e1,_⟩ |⟨g,cap,cur,e1,_,hrow,_⟩⟩:=h
 ·subst e1
  cases hv:v'.ownBlock with
  |none=>exact .inl rfl
  |some x=>exact .inr (by intro h;cases h)
 ·obtain⟨_,⟨e2,_⟩ |⟨g2,cap2,cur2,e2,_,hrow2,_⟩⟩:=h'
  ·subst e2;exact .inl rfl
  ·subst e1 e2;refine .inr fun h=> ?_;simp only[Value.ownBlock,Option.some.injEq] at h;subst h;rw[hrow] at hrow2;simp only[Option.some.injEq,Obj.cells.injEq] at hrow2;exact hne hrow2.2.1
structure AnL (w0 w:World) (n1 b:Nat) (hh:Int) (tv y2 y3 r1 r2 r3:Value) (m1 m2 m3:Nat) (L1 L2 L3:List Value):Prop where
 kp:Kept w0.heap.size w0 w
 n0:w0.heap.size<=n1/\n1<=w.heap.size
 bb:w0.heap.size<=b/\b<n1
 c0:w.cell? ⟨b,0,none⟩=some (.int .i64 hh)
 c1:w.cell? ⟨b,1,none⟩=some tv
 c2:w.cell? ⟨b,2,none⟩=some y2
 c3:w.cell? ⟨b,3,none⟩=some y3
 fr: ∀j,w.frozen? ⟨b,j,none⟩=false
 o1:w.ownsRow n1 79 3 r1 m1 L1
 o2:w.ownsRow n1 3 1 r2 m2 L2
 o3:w.ownsRow n1 67 3 r3 m3 L3
section
variable {w0 w w':World} {n1 b:Nat} {hh:Int} {tv y2 y3 r1 r2 r3:Value} {m1 m2 m3:Nat} {L1 L2 L3:List Value}
theorem AnL.tp (h:AnL w0 w n1 b hh tv y2 y3 r1 r2 r3 m1 m2 m3 L1 L2 L3) (τ:Nat->Question->Nat) (d:Nat):AnL w0 (w.tp τ d noJ) n1 b hh tv y2 y3 r1 r2 r3 m1 m2 m3 L1 L2 L3:=by
 have hz:=wBk w _ h.c0;exact⟨fC.2 h.kp,by rw[jO];exact h.n0,h.bb,by rw[bV];exact h.c0,by rw[bV];exact h.c1,by rw[bV];exact h.c2,by rw[bV];exact h.c3,fun j=>by rw[(jD (w:=w) (τ:=τ) (d:=d)).frozen (p:=⟨b,j,none⟩) hz];exact h.fr j,ai0.2 h.o1,ai0.2 h.o2,ai0.2 h.o3⟩
theorem AnL.same (h:AnL w0 w n1 b hh tv y2 y3 r1 r2 r3 m1 m2 m3 L1 L2 L3) (hk:Kept w0.heap.size w0 w') (hs:w.heap.size<=w'.heap.size) (hb:w'.heap[b]? =w.heap[b]?) {q1 q2 q3:Value} {k1 k2 k3:Nat} {M1 M2 M3:List Value} (o1:w'.ownsRow n1 79 3 q1 k1 M1) (o2:w'.ownsRow n1 3 1 q2 k2 M2) (o3:w'.ownsRow n1 67 3 q3 k3 M3):
  AnL w0 w' n1 b hh tv y2 y3 q1 q2 q3 k1 k2 k3 M1 M2 M3:=by
 have hc: ∀o,w'.cell? ⟨b,o,none⟩=w.cell? ⟨b,o,none⟩:=fun o=>by simp[World.cell?,hb]
 have hf: ∀o,w'.frozen? ⟨b,o,none⟩=w.frozen? ⟨b,o,none⟩:=fun o=>by simp[World.frozen?,hb]
 exact⟨hk,⟨h.n0.1,Nat.le_trans h.n0.2 hs⟩,h.bb,(hc 0).trans h.c0,(hc 1).trans h.c1,(hc 2).trans h.c2,(hc 3).trans h.c3,fun j=>(hf j).trans (h.fr j),o1,o2,o3⟩
theorem AnL.drew (h:AnL w0 w n1 b hh tv y2 y3 r1 r2 r3 m1 m2 m3 L1 L2 L3):AnL w0 w.drew n1 b hh tv y2 y3 r1 r2 r3 m1 m2 m3 L1 L2 L3:=
 ⟨h.kp.trans (Kept.of_below (Below.refl _ _).drew),h.n0,h.bb,h.c0,h.c1,h.c2,h.c3,h.fr,h.o1,h.o2,h.o3⟩
theorem AnL.alloc (h:AnL w0 w n1 b hh tv y2 y3 r1 r2 r3 m1 m2 m3 L1 L2 L3) (o:Obj):AnL w0 (w.alloc o) n1 b hh tv y2 y3 r1 r2 r3 m1 m2 m3 L1 L2 L3:=by
 have hb:=(Below.refl w.heap.size w).alloc (nR _) o;exact h.same (h.kp.trans ((Kept.of_below hb).mono h.kp.size)) hb.size (hb.block _ (wBk w _ h.c0)) (h.o1.alloc o) (h.o2.alloc o) (h.o3.alloc o)
theorem AnL.grown (h:AnL w0 w n1 b hh tv y2 y3 r1 r2 r3 m1 m2 m3 L1 L2 L3) {r:Value} (hr: ∀k,r.ownBlock=some k->n1<=k) (hg:w.grownBy w' r.ownBlock):Kept w0.heap.size w0 w'/\w'.heap[b]? =w.heap[b]? :=by
 have hb:=(Below.refl n1 w).grown hg h.n0.2 hr;refine⟨h.kp.trans ((Kept.of_below hb).mono h.n0.1),hg.block _ (wBk w _ h.c0) fun e=> ?_⟩;have:=hr b e.symm;have:=h.bb.2;omega
theorem AnL.app1 (h:AnL w0 w n1 b hh tv y2 y3 r1 r2 r3 m1 m2 m3 L1 L2 L3) (hg:w.grownBy w' r1.ownBlock) {q:Value} {k:Nat} {M:List Value} (ho:w'.ownsRow n1 79 3 q k M):AnL w0 w' n1 b hh tv y2 y3 q r2 r3 k m2 m3 M L2 L3:=by
 obtain⟨h1,h2⟩:=h.grown (fun k hk=>(h.o1.lt k hk).1) hg;exact h.same h1 hg.size h2 ho (h.o2.kept hg (own_ne h.o1 h.o2 (by decide))) (h.o3.kept hg (own_ne h.o1 h.o3 (by decide)))
theorem AnL.app2 (h:AnL w0 w n1 b hh tv y2 y3 r1 r2 r3 m1 m2 m3 L1 L2 L3) (hg:w.grownBy w' r2.ownBlock) {q:Value} {k:Nat} {M:List Value} (ho:w'.ownsRow n1 3 1 q k M):AnL w0 w' n1 b hh tv y2 y3 r1 q r3 m1 k m3 L1 M L3:=by
 obtain⟨h1,h2⟩:=h.grown (fun k hk=>(h.o2.lt k hk).1) hg;exact h.same h1 hg.size h2 (h.o1.kept hg (own_ne h.o2 h.o1 (by decide))) ho (h.o3.kept hg (own_ne h.o2 h.o3 (by decide)))
theorem AnL.app3 (h:AnL w0 w n1 b hh tv y2 y3 r1 r2 r3 m1 m2 m3 L1 L2 L3) (hg:w.grownBy w' r3.ownBlock) {q:Value} {k:Nat} {M:List Value} (ho:w'.ownsRow n1 67 3 q k M):AnL w0 w' n1 b hh tv y2 y3 r1 r2 q m1 m2 k L1 L2 M:=by
 obtain⟨h1,h2⟩:=h.grown (fun k hk=>(h.o3.lt k hk).1) hg;exact h.same h1 hg.size h2 (h.o1.kept hg (own_ne h.o3 h.o1 (by decide))) (h.o2.kept hg (own_ne h.o3 h.o2 (by decide))) ho
theorem AnL.put2 (h:AnL w0 w n1 b hh tv y2 y3 r1 r2 r3 m1 m2 m3 L1 L2 L3) (v:Value):AnL w0 (w.setCell ⟨b,2,none⟩ v) n1 b hh tv v y3 r1 r2 r3 m1 m2 m3 L1 L2 L3:=by
 obtain⟨kp,n0,bb,c0,c1,c2,c3,fr,o1,o2,o3⟩:=h;have f2:=fr 2;refine⟨ach kp (p:=⟨b,2,none⟩) bb.1 _,by simpa using n0,bb,by go_simp, ?_,World.cell?_setCell_same _ _ _ c2, ?_,fun j=>by rw[World.frozen?_setCell];exact fr j,aki o1 bb.2 _,aki o2 bb.2 _,aki o3 bb.2 _⟩
 ·rw[wO _ _ _ _ (by intro e;simp at e)];exact c1
 ·rw[wO _ _ _ _ (by intro e;simp at e)];exact c3
theorem AnL.put3 (h:AnL w0 w n1 b hh tv y2 y3 r1 r2 r3 m1 m2 m3 L1 L2 L3) (v:Value):AnL w0 (w.setCell ⟨b,3,none⟩ v) n1 b hh tv y2 v r1 r2 r3 m1 m2 m3 L1 L2 L3:=by
 obtain⟨kp,n0,bb,c0,c1,c2,c3,fr,o1,o2,o3⟩:=h;have f3:=fr 3;refine⟨ach kp (p:=⟨b,3,none⟩) bb.1 _,by simpa using n0,bb,by go_simp, ?_, ?_,World.cell?_setCell_same _ _ _ c3,fun j=>by rw[World.frozen?_setCell];exact fr j,aki o1 bb.2 _,aki o2 bb.2 _,aki o3 bb.2 _⟩
 ·rw[wO _ _ _ _ (by intro e;simp at e)];exact c1
 ·rw[wO _ _ _ _ (by intro e;simp at e)];exact c2
end
section
variable {f:FuncId} {N d n z:Nat} {a:Act} {w:World} {l:List (Nat×Value)} {ops:Array Oper} {listed:Array Bool} {kk:List Item} {R:Value->World->Prop} {o:Oper} {S:World->Prop} {Q:Exit->Act->World->Prop}
theorem akG {id:Nat} (z n:Nat) (S:World->Prop) (X:Act->World->Prop) (h: ∀τ,LaS tP ops (fun e a' u=>e= .normal/\X a' u) z S n (Array.replicate n false) a (w.tp τ 0 noJ).drew) (k: ∀a' u,X a' u->GL tP f kk R a' u) (hn:ops.size=n:=by rfl):GL tP f (.code (.region id ops true)::kk) R a w:=
 jM good (Q:=fun it a' u=>it=kk/\X a' u) (fun τ=>bg (Code.wp_mono (fun e a' u q=>by
  obtain⟨e1,hx⟩:=q;subst e1;exact dO ⟨rfl,hx⟩) (aif z n S (by kernel_rfl) (h τ) hn))) fun it a' u ⟨e1,hx⟩=>by subst e1;exact k a' u hx
theorem aj7 (i:Nat) (v:Value) (hS:Sl a N l) (hw0:S w) (h: ∀a',Sl a' N ((d,v)::l)->LaS tP ops Q z S n (listed.setIfInBounds i true) a' w) (ho:ops[i]? =some o:=by rfl) (hw:Region.wanted o (yielded ops a.tmps)=true:=by rfl) (hdst:o.dst=some d:=by rfl) (hd:d<N:=by decide) (hn:(l.map (·.1)).contains d=false:=by rfl)
  (hs:Region.noSelect ops=true:=by kernel_rfl) (hf:Region.free .any ops listed i=true:=by kernel_rfl) (hc:(Region.ready .any ops listed).contains i=true:=by kernel_rfl) (hsh:ajj ops listed=true:=by kernel_rfl) (hz:ops.size<=z\/ ∃f,aji ops f z i=true:=by first | (refine .inl ?_;decide) | (refine .inr ⟨1, ?_⟩;decide+kernel) | (refine .inr ⟨2, ?_⟩;decide+kernel) | (refine .inr ⟨3, ?_⟩;decide+kernel) | (refine .inr ⟨6, ?_⟩;decide+kernel)) (hz2:ops.size<=z+1\/ ∃f,aji ops f (z+1) i=true:=by first | (refine .inl ?_;decide) | (refine .inr ⟨1, ?_⟩;decide+kernel) | (refine .inr ⟨2, ?_⟩;decide+kernel) | (refine .inr ⟨3, ?_⟩;decide+kernel) | (refine .inr ⟨6, ?_⟩;decide+kernel))
  (hr: ∀u,S u->(execOp a.eval o).run tP u= .ok (.value v) u:=by intro u hu;have h:=(‹Sl _ _ _›).2.2;simp only[SlA] at h;simp[go_sem,h]):LaS tP ops Q z S (n+1) listed a w:=
 ahN i v hw0 (h _ (by have:=hS.put hd hn (v:=v);rw[<-hdst] at this;exact this)) ho hw hr hs hf hc hsh hz hz2
theorem akz {v:Value} (hS:Sl a N l) (hdst:o.dst=some d:=by rfl) (hd:d<N:=by decide) (hn:(l.map (·.1)).contains d=false:=by rfl):Sl (a.put o.dst v) N ((d,v)::l):=by
 have:=hS.put hd hn (v:=v);rw[<-hdst] at this;exact this
end
theorem akH {α:Type} (l:List α) (s:Nat):aj2 l s 0=l.take s:=by unfold aj2;simp
section
variable {f:FuncId} {N d p q:Nat} {a:Act} {w w0:World} {l:List (Nat×Value)} {ops:Array Oper} {i:Nat} {rest:List Nat} {kk:List Item} {R:Value->World->Prop} {o:Oper}
variable {n1 b:Nat} {hh:Int} {tv y2 y3 r1 r2 r3:Value} {m1 m2 m3:Nat} {L1 L2 L3:List Value}
theorem akU (hF:AnL w0 w n1 b hh tv y2 y3 r1 r2 r3 m1 m2 m3 L1 L2 L3) (hS:Sl a N l) (h: ∀a' v w',AnL w0 w' n1 b hh tv y2 y3 v r2 r3 0 m2 m3 [] L2 L3->Sl a' N ((d,v)::l)->GL tP f (.inRegion ops rest::kk) R a' w')
  (ho:ops[i]? =some o:=by rfl) (hw:Region.wanted o (yielded ops a.tmps)=true:=by rfl) (hdst:o.dst=some d:=by rfl) (hd:d<N:=by decide) (hn:(l.map (·.1)).contains d=false:=by rfl) (hr: ∀u,(execOp a.eval o).run tP u= .ok (.value (.slice (some ⟨u.heap.size,0,none⟩) 0 0)) (u.alloc (.cells #[] 79)):=by intro u;go_simp):GL tP f (.inRegion ops (i::rest)::kk) R a w:=
 LQ good (fun v w'=>AnL w0 w' n1 b hh tv y2 y3 v r2 r3 0 m2 m3 [] L2 L3) ho hw (fun τ=>by
  have h1:=(hF.tp τ 0).alloc (.cells #[] 79);exact⟨_,_,hr _,h1.same h1.kp (nR _) rfl (aip _ _ _ _ (hF.tp τ 0).n0.2) h1.o2 h1.o3⟩) fun v u h1=>h _ v u h1 (by have:=hS.put hd hn (v:=v);rw[<-hdst] at this;exact this)
theorem akV (hF:AnL w0 w n1 b hh tv y2 y3 r1 r2 r3 m1 m2 m3 L1 L2 L3) (hS:Sl a N l) (h: ∀a' v w',AnL w0 w' n1 b hh tv y2 y3 r1 v r3 m1 0 m3 L1 [] L3->Sl a' N ((d,v)::l)->GL tP f (.inRegion ops rest::kk) R a' w')
  (ho:ops[i]? =some o:=by rfl) (hw:Region.wanted o (yielded ops a.tmps)=true:=by rfl) (hdst:o.dst=some d:=by rfl) (hd:d<N:=by decide) (hn:(l.map (·.1)).contains d=false:=by rfl) (hr: ∀u,(execOp a.eval o).run tP u= .ok (.value (.slice (some ⟨u.heap.size,0,none⟩) 0 0)) (u.alloc (.cells #[] 3)):=by intro u;go_simp):GL tP f (.inRegion ops (i::rest)::kk) R a w:=
 LQ good (fun v w'=>AnL w0 w' n1 b hh tv y2 y3 r1 v r3 m1 0 m3 L1 [] L3) ho hw (fun τ=>by
  have h1:=(hF.tp τ 0).alloc (.cells #[] 3);exact⟨_,_,hr _,h1.same h1.kp (nR _) rfl h1.o1 (aip _ _ _ _ (hF.tp τ 0).n0.2) h1.o3⟩) fun v u h1=>h _ v u h1 (by have:=hS.put hd hn (v:=v);rw[<-hdst] at this;exact this)
theorem akW {i7:TypeInfo} (hi7:tP.info? 79=some i7) (hz7:i7.zero=some (.agg #[.int .i64 0,.int .i64 0,.slice none 0 0])) (hy7:i7.size=3) (hw7:i7.bytes=40) (hF:AnL w0 w n1 b hh tv y2 y3 r1 r2 r3 m1 m2 m3 L1 L2 L3) {ad:Addr} {m c:Nat} {news:List Value}
  (hl:news.length=m*3) (hnews: ∀(j:Nat) (u:Value),news[j]? =some u->w.cell? (ad.add j)=some u) (h1: ∀u∈news,u.oneCell'=true) (h6:m1+m<=1000)
  (hS:Sl a N l) (h: ∀a' v w',AnL w0 w' n1 b hh tv y2 y3 v r2 r3 (m1+m) m2 m3 (L1++news) L2 L3->Sl a' N ((d,v)::l)->GL tP f (.inRegion ops rest::kk) R a' w')
  (hs:a.tmps[p]?.getD undef=r1) (hx:a.tmps[q]?.getD undef= .slice (some ad) m c)
  (ho:ops[i]? =some o:=by rfl) (hop:o.op= .call {callee:= .builtin .append,args:= #[.tmp p,.tmp q],argTypes:= #[23,23]}:=by rfl) (hw:Region.wanted o (yielded ops a.tmps)=true:=by rfl) (hdst:o.dst=some d:=by rfl) (hd:d<N:=by decide) (hn:(l.map (·.1)).contains d=false:=by rfl):GL tP f (.inRegion ops (i::rest)::kk) R a w:=
 LQ good (fun v w'=>AnL w0 w' n1 b hh tv y2 y3 v r2 r3 (m1+m) m2 m3 (L1++news) L2 L3) ho hw (fun τ=>by
  have hF':=hF.tp τ 0;obtain⟨v',w',hr,h2,h3,_⟩:=run_append_own (P:=tP) (w.tp τ 0 noJ) n1 23 o.type 79 i7 (.agg #[.int .i64 0,.int .i64 0,.slice none 0 0]) 3 40 Tryd.underlying23 hi7 hz7 hy7 hw7 (by rfl) (by decide) r1 m1 L1 hF'.o1 ad m c news hl (fun j u hu=>by rw[bV];exact hnews j u hu) h1 (by unfold maxLen;omega) (by omega) hF'.n0.2;refine⟨v',w', ?_,hF'.app1 h3 h2⟩;have e1:a.eval (.tmp p)=r1:=by rw[ev];exact hs
  have e2:a.eval (.tmp q)= .slice (some ad) m c:=by rw[ev];exact hx
  unfold execOp;simp only[hop,resolve,invoke,builtin,Sem.run_bind,Sem.run_pure,Result.andThen_ok,List.map_toArray,List.map_cons,List.map_nil,e1,e2,hr]) fun v u h1=>h _ v u h1 (by have:=hS.put hd hn (v:=v);rw[<-hdst] at this;exact this)
theorem akX {i3:TypeInfo} (hi3:tP.info? 3=some i3) (hz3:i3.zero=some (.int .i64 0)) (hy3:i3.size=1) (hw3:i3.bytes=8) (hF:AnL w0 w n1 b hh tv y2 y3 r1 r2 r3 m1 m2 m3 L1 L2 L3) {ad:Addr} {m c:Nat} {news:List Value}
  (hl:news.length=m*1) (hnews: ∀(j:Nat) (u:Value),news[j]? =some u->w.cell? (ad.add j)=some u) (h1: ∀u∈news,u.oneCell'=true) (h6:m2+m<=1000)
  (hS:Sl a N l) (h: ∀a' v w',AnL w0 w' n1 b hh tv y2 y3 r1 v r3 m1 (m2+m) m3 L1 (L2++news) L3->Sl a' N ((d,v)::l)->GL tP f (.inRegion ops rest::kk) R a' w')
  (hs:a.tmps[p]?.getD undef=r2) (hx:a.tmps[q]?.getD undef= .slice (some ad) m c)
  (ho:ops[i]? =some o:=by rfl) (hop:o.op= .call {callee:= .builtin .append,args:= #[.tmp p,.tmp q],argTypes:= #[27,27]}:=by rfl) (hw:Region.wanted o (yielded ops a.tmps)=true:=by rfl) (hdst:o.dst=some d:=by rfl) (hd:d<N:=by decide) (hn:(l.map (·.1)).contains d=false:=by rfl):GL tP f (.inRegion ops (i::rest)::kk) R a w:=
 LQ good (fun v w'=>AnL w0 w' n1 b hh tv y2 y3 r1 v r3 m1 (m2+m) m3 L1 (L2++news) L3) ho hw (fun τ=>by
  have hF':=hF.tp τ 0;obtain⟨v',w',hr,h2,h3,_⟩:=run_append_own (P:=tP) (w.tp τ 0 noJ) n1 27 o.type 3 i3 (.int .i64 0) 1 8 Tryd.underlying27 hi3 hz3 hy3 hw3 (by rfl) (by decide) r2 m2 L2 hF'.o2 ad m c news hl (fun j u hu=>by rw[bV];exact hnews j u hu) h1 (by unfold maxLen;omega) (by omega) hF'.n0.2;refine⟨v',w', ?_,hF'.app2 h3 h2⟩;have e1:a.eval (.tmp p)=r2:=by rw[ev];exact hs
  have e2:a.eval (.tmp q)= .slice (some ad) m c:=by rw[ev];exact hx
  unfold execOp;simp only[hop,resolve,invoke,builtin,Sem.run_bind,Sem.run_pure,Result.andThen_ok,List.map_toArray,List.map_cons,List.map_nil,e1,e2,hr]) fun v u h1=>h _ v u h1 (by have:=hS.put hd hn (v:=v);rw[<-hdst] at this;exact this)
theorem akY (v:Value) (hF:AnL w0 w n1 b hh tv y2 y3 r1 r2 r3 m1 m2 m3 L1 L2 L3) (hS:Sl a N l) (h: ∀a' w',AnL w0 w' n1 b hh tv v y3 r1 r2 r3 m1 m2 m3 L1 L2 L3->Sl a' N l->GL tP f (.inRegion ops rest::kk) R a' w')
  (ho:ops[i]? =some o:=by rfl) (hw:Region.wanted o (yielded ops a.tmps)=true:=by rfl) (hdst:o.dst=none:=by rfl) (hr: ∀u,u.cell? ⟨b,2,none⟩=some y2->u.frozen? ⟨b,2,none⟩=false->(execOp a.eval o).run tP u= .ok .skip (u.setCell ⟨b,2,none⟩ v):=by intro u hc hf;have h:=(‹Sl _ _ _›).2.2;simp only[SlA] at h;simp[go_sem,h,hc,hf]):GL tP f (.inRegion ops (i::rest)::kk) R a w:=
 ag3 (fun w'=>AnL w0 w' n1 b hh tv v y3 r1 r2 r3 m1 m2 m3 L1 L2 L3) ho hw (fun τ=>⟨_,hr _ (hF.tp τ 0).c2 ((hF.tp τ 0).fr 2),(hF.tp τ 0).put2 v⟩) fun w' h1=>h _ w' h1 (by rw[hdst];exact hS)
theorem akZ (v:Value) (hF:AnL w0 w n1 b hh tv y2 y3 r1 r2 r3 m1 m2 m3 L1 L2 L3) (hS:Sl a N l) (h: ∀a' w',AnL w0 w' n1 b hh tv y2 v r1 r2 r3 m1 m2 m3 L1 L2 L3->Sl a' N l->GL tP f (.inRegion ops rest::kk) R a' w')
  (ho:ops[i]? =some o:=by rfl) (hw:Region.wanted o (yielded ops a.tmps)=true:=by rfl) (hdst:o.dst=none:=by rfl) (hr: ∀u,u.cell? ⟨b,3,none⟩=some y3->u.frozen? ⟨b,3,none⟩=false->(execOp a.eval o).run tP u= .ok .skip (u.setCell ⟨b,3,none⟩ v):=by intro u hc hf;have h:=(‹Sl _ _ _›).2.2;simp only[SlA] at h;simp[go_sem,h,hc,hf]):GL tP f (.inRegion ops (i::rest)::kk) R a w:=
 ag3 (fun w'=>AnL w0 w' n1 b hh tv y2 v r1 r2 r3 m1 m2 m3 L1 L2 L3) ho hw (fun τ=>⟨_,hr _ (hF.tp τ 0).c3 ((hF.tp τ 0).fr 3),(hF.tp τ 0).put3 v⟩) fun w' h1=>h _ w' h1 (by rw[hdst];exact hS)
theorem AnL.start {V:BkV} {B:Bk} (hk:Kept w0.heap.size w0 w) (hb:w0.heap.size<=b) (h:afY w b V B):AnL w0 w w.heap.size b B.hours (.slice V.ta B.towns.length V.tc) (.slice V.la B.links.length V.lc) (.slice V.pa B.pairs.length V.pc) (.slice none 0 0) (.slice none 0 0) (.slice none 0 0) 0 0 0 [] [] []:=
 ⟨hk,⟨hk.size,nR _⟩,⟨hb,h.lt⟩,h.c0,h.c1,h.c2,h.c3,h.fr,World.ownsRow_nil _ _ _ _,World.ownsRow_nil _ _ _ _,World.ownsRow_nil _ _ _ _⟩
end
noncomputable def aj8:Code:=Tryd.f11.body.getD .skip
noncomputable def akn:Code:=match aj8 with
 | .seq _ (.seq (.seq _ c) _)=>c
 |_=> .skip
noncomputable def aj9:Code:=match aj8 with
 | .seq _ (.seq _ c)=>c
 |_=> .skip
noncomputable def an5:Code:=match aj9 with
 | .seq _ (.seq _ c)=>c
 |_=> .skip
noncomputable def an6:Code:=match an5 with
 | .seq _ c=>c
 |_=> .skip
noncomputable def an8:Code:=match an6 with
 | .seq _ (.seq _ c)=>c
 |_=> .skip
noncomputable def akc:Code:=match an8 with
 | .seq (.seq _ (.block _ (.loop c))) _=>c
 |_=> .skip
noncomputable def akg:Code:=match an8 with
 | .seq _ c=>c
 |_=> .skip
noncomputable def akd:Code:=match akg with
 | .seq (.seq _ (.block _ (.loop c))) _=>c
 |_=> .skip
noncomputable def ako:Code:=match akg with
 | .seq _ c=>c
 |_=> .skip
theorem ak0:tP.elem 27=3:=by kernel_rfl
theorem ak1 (la:Option Addr) (n k c:Nat) (hk:k<=n) (hn:n<=c) (u:World):(Instr.slice 27 (.slice la n c) none (some (.int .i64 (k:Int))) none).run tP u= .ok (.slice la k c) u:=by
 have ht:tP.underlying 27=some (.slice (tP.elem 27)):=by kernel_rfl
 have z3:=Tryd.sizeOf3;rw[run_slice_h u 27 la n c ht .i64 (k:Int) (by omega) (by omega),ak0];simp[sliced,z3,Result.andThen];intro _
 cases la<;>simp[Addr.add]
theorem akI:(tP.info? 3).map (fun i=>(i.zero,i.size,i.bytes))=some (some (.int .i64 0),1,8):=by kernel_rfl
theorem ak2 (xs:List Int) (k:Nat):ints (xs.take k)=(ints xs).take k:=by simp[ints]
theorem ak3 {R:Value->World->Prop} {kk:List Item} {V:BkV} {B:Bk} {b3 b11 lb lc lk lo h:Nat} {xs:List Int} {vs:List (Int×Int×Value)} (hA:B.alarm=0) (hlc:B.links.length<=V.lc/\V.lc<=maxLen) (hcap:B.links.length<=lc) (hxl:xs.length=B.links.length) (a:Act) (w0 w:World) (hB0:dL w0 b3 V B) (hx:SlI w0 (some ⟨lb,0,none⟩) xs) (hk0:Kept w0.heap.size w0 w) (hb:w0.heap.size<=b11) (hK:afY w b11 V B) (hla:V.la=some ⟨lk,lo,none⟩) (hrv:RwV w0 (B.links.map lk3) vs) (htr:ahP w0 lk lo vs) (hS:Sl a 242 [(11,.pointer (some ⟨b11,0,none⟩)),(9,.slice (some ⟨lb,0,none⟩) B.links.length lc),(7,.int .i64 (B.links.length:Int)),(8,.int .i64 (B.spokes:Int)),(10,.int .i64 (h:Int)),(3,.pointer (some ⟨b3,0,none⟩))])
  (K: ∀a' u g gc r2,Sl a' 242 [(12,r2),(11,.pointer (some ⟨b11,0,none⟩)),(9,.slice (some ⟨lb,0,none⟩) B.links.length lc),(7,.int .i64 (B.links.length:Int)),(8,.int .i64 (B.spokes:Int)),(10,.int .i64 (h:Int)),(3,.pointer (some ⟨b3,0,none⟩))]->AnL w0 u w.heap.size b11 B.hours (.slice V.ta B.towns.length V.tc) (.slice (some ⟨g,0,none⟩) B.spokes gc) (.slice none 0 0) (.slice (some ⟨g,0,none⟩) B.spokes gc) r2 (.slice none 0 0) B.spokes B.spokes 0 (tri (aj2 vs B.spokes 0)) (ints (aj2 xs B.spokes 0)) []->GL tP 11 (.code an8::kk) R a' u):GL tP 11 (.code an6::kk) R a w:=by
 have hFn:=(gY hA).fine;have htt:=hFn.towns;have hll:=hFn.links;have hs1:1<=B.spokes:=by show 1<=B.towns.length-1;omega
 have hvl:vs.length=B.links.length:=by rw[hrv.len,List.length_map]
 have hcut:=fun(u:World)=>air V.la B.links.length B.spokes V.lc hll.1 hlc.1 u;have hcut2:=fun(u:World)=>ak1 (some ⟨lb,0,none⟩) B.links.length B.spokes lc hll.1 hcap u;obtain⟨i7,hi7,hz7,hy7,hw7⟩:=info_parts Zo;obtain⟨i3,hi3,hz3,hy3,hw3⟩:=info_parts akI;have hF:=AnL.start hk0 hb hK;have hB:=hB0.kept hF.kp;have e6:an6= .seq (match an6 with | .seq x _=>x |_=> .skip) (.seq (match an6 with | .seq _ (.seq x _)=>x |_=> .skip) an8):=rfl;rw[e6];simp only[an6,an5,aj9,aj8,Tryd.f11,Option.getD_some];refine kV good (oJ good ?_);refine akU hF hS (fun a r1 u hF hS=> ?_);have hB:=hB0.kept hF.kp;refine acT hS hB (fun a hS=> ?_) (hs:=hS.2.2.2.2.2.2.2.2.1);refine acX hS hB (fun a hS=> ?_) (hs:=hS.2.2.1);refine aU (.int .i64 (B.spokes:Int)) hS (fun a hS=> ?_);refine aU (.slice V.la B.spokes V.lc) hS (fun a hS=> ?_) (hr:=by intro τ;have h:=(‹Sl _ _ _›).2.2;simp only[SlA] at h;simp[go_sem,h,hcut]);rw[hla] at hS;refine akW (p:=55) (q:=59) hi7 hz7 hy7 hw7 hF (news:=tri (vs.take B.spokes)) (by rw[ES,List.length_take,hvl,Nat.min_eq_left hll.1]) (fun j x hj=> ?_) (hrv.take B.spokes).one (by omega) hS (fun a r1b u hF hS=> ?_) hS.2.2.2.2.2.2.1 hS.2.2.1
 ·have:=(htr.take B.spokes) j x hj;rw[BH] at this ⊢;exact dV hF.kp (nR _) this
 obtain⟨g,gc,rfl,_⟩:=ru hF.o1 (by omega);rw[Nat.zero_add,List.nil_append,<-akH] at hF;rw[Nat.zero_add] at hS;refine aU (.pointer (some ⟨b11,2,none⟩)) hS (fun a hS=> ?_) (hr:=by intro τ;have h:=(‹Sl _ _ _›).2.2;simp only[SlA] at h;simp[go_sem,h,]);refine akY (.slice (some ⟨g,0,none⟩) B.spokes gc) hF hS fun a u hF hS=> ?_;refine aU (.pointer (some ⟨b11,3,none⟩)) hS (fun a hS=> ?_) (hr:=by intro τ;have h:=(‹Sl _ _ _›).2.2;simp only[SlA] at h;simp[go_sem,h,]);refine akZ (.slice none 0 0) hF hS fun a u hF hS=> ?_;refine lY good ?_;have hS:Sl a 242 [(11,.pointer (some ⟨b11,0,none⟩)),(9,.slice (some ⟨lb,0,none⟩) B.links.length lc),(7,.int .i64 (B.links.length:Int)),(8,.int .i64 (B.spokes:Int)),(10,.int .i64 (h:Int)),(3,.pointer (some ⟨b3,0,none⟩))]:=⟨hS.1,hS.2.1,hS.2.2.2.2.2.2.2.2.2.2.1,hS.2.2.2.2.2.2.2.2.2.2.2.1,hS.2.2.2.2.2.2.2.2.2.2.2.2.1,hS.2.2.2.2.2.2.2.2.2.2.2.2.2.1,hS.2.2.2.2.2.2.2.2.2.2.2.2.2.2.1,hS.2.2.2.2.2.2.2.2.2.2.2.2.2.2.2.1,trivial⟩;refine kV good (oJ good ?_);refine akV hF hS (fun a r2 u hF hS=> ?_);refine aU (.slice (some ⟨lb,0,none⟩) B.links.length lc) hS (fun a hS=> ?_);refine aU (.int .i64 (B.spokes:Int)) hS (fun a hS=> ?_);refine aU (.slice (some ⟨lb,0,none⟩) B.spokes lc) hS (fun a hS=> ?_) (hr:=by intro τ;have h:=(‹Sl _ _ _›).2.2;simp only[SlA] at h;simp[go_sem,h,hcut2]);refine akX (p:=63) (q:=66) hi3 hz3 hy3 hw3 hF (news:=ints (xs.take B.spokes)) (by simp[ints,hxl];omega) (fun j x hj=> ?_) EF (by omega) hS (fun a r2b u hF hS=> ?_) hS.2.2.2.2.2.1 hS.2.2.1
 ·obtain⟨y,hy,rfl⟩: ∃y,xs[j]? =some y/\x= .int .i64 y:=by
   rw[ak2,List.getElem?_take] at hj
   split at hj
   ·unfold ints at hj;rw[List.getElem?_map,Option.map_eq_some_iff] at hj;obtain⟨y,h1,h2⟩:=hj;exact⟨y,h1,h2.symm⟩
   ·cases hj
  obtain⟨b2,o2,e2,hc⟩:=hx j y hy
  cases e2
  rw[BH];exact dV hF.kp (nR _) hc
 rw[Nat.zero_add,List.nil_append,<-akH] at hF;refine aU (r2b) hS (fun a hS=> ?_);refine lY good ?_;have hS:Sl a 242 [(12,r2b),(11,.pointer (some ⟨b11,0,none⟩)),(9,.slice (some ⟨lb,0,none⟩) B.links.length lc),(7,.int .i64 (B.links.length:Int)),(8,.int .i64 (B.spokes:Int)),(10,.int .i64 (h:Int)),(3,.pointer (some ⟨b3,0,none⟩))]:=⟨hS.1,hS.2.1,hS.2.2.1,hS.2.2.2.2.2.2.2.2.1,hS.2.2.2.2.2.2.2.2.2.1,hS.2.2.2.2.2.2.2.2.2.2.1,hS.2.2.2.2.2.2.2.2.2.2.2.1,hS.2.2.2.2.2.2.2.2.2.2.2.2.1,hS.2.2.2.2.2.2.2.2.2.2.2.2.2.1,trivial⟩;exact K a u g gc r2b hS hF
end Go.Proofs.YtaikibfkggglgaaDoor
