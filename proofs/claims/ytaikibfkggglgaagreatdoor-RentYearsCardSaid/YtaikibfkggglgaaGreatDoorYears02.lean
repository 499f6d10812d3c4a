/- A part of the proof of a law; no conditions of its own. -/
import Derived.Test.YtaikibfkggglgaaGreatDoorYears01
import Derived.Deep.Heap
import Derived.Laws.AppendOwnNone
import Derived.Test.YtaikibfkggglgaaGreatDoorW23
open Go renaming Addr→aD, Value→vL, World→wD
open Go.RowKit renaming Below→bX
open Go.IntKind renaming i64→qi
open Go.Value renaming int→iN, slice→sL, pointer→pN
open Go.Ending renaming returned→rT
open Go.Obj renaming cells→cL
set_option maxRecDepth 100000
open Go renaming undef→ud
open Nat renaming le_refl→nR
open Go.Lib renaming hid→lH
open Go.RowKit.Below renaming refl→bR
open Go.Proofs.Tryz renaming prog→tP
open List renaming getElem?_eq_getElem→lG
open Array renaming getElem?_eq_some_iff→aS
open Go.World renaming block_lt_of_cell?→wBk
open Go.World renaming cell?_setCell_other→wO
open Option.some renaming injEq→oI
set_option maxHeartbeats 4000000
namespace Go.Proofs.YtaikibfkggglgaaGreatDoor
open Go.RowKit Go.Rent Go.Tp Go.Conc
def RwB (w:wD) (n:Nat) (a:Option aD) (l:List (Int×Int)):Prop:=(a=none/\l= [])\/ ∃b cur fz,a=some ⟨b,0,none⟩/\n<=b/\w.heap[b]? =some (cL cur 43 fz)/\ ∀(j:Nat) (x:Int×Int),l[j]? =some x->cur[j*2]? =some (iN qi x.1)/\cur[j*2+1]? =some (iN qi x.2)
theorem ao8 {w:wD} {b j:Nat} {cur:Array vL} {e:TypeId} {fz:Nat×Nat} {u:vL} (h:w.heap[b]? =some (cL cur e fz)) (hj:cur[j]? =some u):w.cell? ⟨b,j,none⟩=some u:=by
 simp[World.cell?,h,hj]
theorem RwB.sl {w:wD} {n:Nat} {a:Option aD} {l:List (Int×Int)} (h:RwB w n a l):SlB w a l:=fun i x hx=>by
 rcases h with ⟨_,rfl⟩ |⟨b,cur,fz,rfl,_,hb,hc⟩
 ·simp at hx
 ·exact⟨b,0,rfl,by rw[Nat.zero_add];exact ao8 hb (hc i x hx).1,by rw[Nat.zero_add];exact ao8 hb (hc i x hx).2⟩
theorem RwB.at {w w':wD} {n:Nat} {a:Option aD} {l:List (Int×Int)} (h:RwB w n a l) (k: ∀(b:Nat) (cur:Array vL) (fz:Nat×Nat),n<=b->w.heap[b]? =some (cL cur 43 fz)->w'.heap[b]? =w.heap[b]?):RwB w' n a l:=by
 rcases h with h |⟨b,cur,fz,e,hn,hb,hc⟩
 ·exact .inl h
 ·exact .inr ⟨b,cur,fz,e,hn,(k b cur fz hn hb).trans hb,hc⟩
theorem RwB.base {w:wD} {n m:Nat} {a:Option aD} {l:List (Int×Int)} (h:RwB w n a l) (hm:m<=n):RwB w m a l:=by
 rcases h with h |⟨b,cur,fz,e,hn,hb,hc⟩
 ·exact .inl h
 ·exact .inr ⟨b,cur,fz,e,Nat.le_trans hm hn,hb,hc⟩
theorem apm {w:wD} {n:Nat} {v:vL} {l:List (Int×Int)} (h:w.ownsRow n 43 2 v l.length (duo l)): ∃a c,v= sL a l.length c/\RwB w n a l:=by
 obtain⟨_,⟨e,h0⟩ |⟨g,cap,cur,e,hg,hb,_,_,hs,ht⟩⟩:=h
 ·have:l= []:=List.eq_nil_of_length_eq_zero h0;subst this;exact⟨none,0,e,.inl ⟨rfl,rfl⟩⟩
 ·have hcur: ∀(j:Nat) (u:vL),(duo l)[j]? =some u->cur[j]? =some u:=fun j u hj=>by
   rw[<-ht,List.getElem?_take] at hj
   split at hj
   ·simpa using hj
   ·cases hj
  exact⟨_,cap,e,.inr ⟨g,cur,_,rfl,hg,hb,fun j x hx=>⟨hcur _ _ (oV l j x hx).1,hcur _ _ (oV l j x hx).2⟩⟩⟩
def KpB (n:Nat) (w w':wD):Prop:= ∀(b:Nat) (cur:Array vL) (fz:Nat×Nat),n<=b->w.heap[b]? =some (cL cur 43 fz)->w'.heap[b]? =w.heap[b]?
theorem KpB.below {n:Nat} {w w':wD} (h:bX w.heap.size w w'):KpB n w w':=fun b _ _ _ hb=>h.block b (aS.1 hb).1
theorem KpB.trans {n:Nat} {a b c:wD} (h:KpB n a b) (k:KpB n b c):KpB n a c:=fun m cur fz hm hn=>(k m cur fz hm ((h m cur fz hm hn).trans hn)).trans (h m cur fz hm hn)
theorem KpB.grown {m:Nat} {w w':wD} {v:vL} {base n s:Nat} {e:TypeId} {xs:List vL} (ho:w.ownsRow base e s v n xs) (he:e≠43) (hg:w.grownBy w' v.ownBlock):KpB m w w':=fun b cur fz _ hb=>
 hg.block b (aS.1 hb).1 fun h=>by
  rcases ho.2 with ⟨rfl,_⟩ |⟨g,cap,cr,rfl,_,hgg,_⟩
  ·simp[Value.ownBlock] at h
  ·simp only[Value.ownBlock,oI] at h;subst h;rw[hgg] at hb;simp only[oI,Obj.cells.injEq] at hb;exact he hb.2.1
theorem KpB.set {n c k:Nat} {w:wD} (h:c<n) (v:vL):KpB n w (w.setCell ⟨c,k,none⟩ v):=fun b _ _ hb _=>Go.Deep.blk_setCell_other _ _ _ _ (show b≠c by omega)
def GrP (w:wD) (n:Nat) (l:List Pr) (vs:List (Int×Int×vL)):Prop:=vs.length=l.length/\ ∀(j:Nat) (q:Pr),l[j]? =some q-> ∃a c,vs[j]? =some (q.one,q.two,sL a q.calls.length c)/\RwB w n a q.calls
theorem GrP.nil (w:wD) (n:Nat):GrP w n [] []:=⟨rfl,fun j q h=>by simp at h⟩
theorem GrP.keep {w w':wD} {n:Nat} {l:List Pr} {vs:List (Int×Int×vL)} (h:GrP w n l vs) (k:KpB n w w'):GrP w' n l vs:=⟨h.1,fun j q hq=>by
 obtain⟨a,c,h1,h2⟩:=h.2 j q hq;exact⟨a,c,h1,h2.at k⟩⟩
theorem GrP.snoc {w:wD} {n:Nat} {l:List Pr} {vs:List (Int×Int×vL)} (h:GrP w n l vs) {q:Pr} {a:Option aD} (c:Nat) (hr:RwB w n a q.calls):GrP w n (l++ [q]) (vs++ [(q.one,q.two,sL a q.calls.length c)]):=by
 refine⟨by rw[List.length_append,List.length_append,h.1];rfl,fun j x hj=> ?_⟩;by_cases e:j<l.length
 ·rw[List.getElem?_append_left e] at hj;rw[List.getElem?_append_left (by rw[h.1];exact e)];exact h.2 j x hj
 ·rw[List.getElem?_append_right (by omega)] at hj;rw[List.getElem?_append_right (by rw[h.1];omega),h.1]
  cases hk:j-l.length with
  |zero=>
   rw[hk] at hj
   cases hj
   exact⟨a,c,rfl,hr⟩
  |succ m=>rw[hk] at hj;simp at hj
theorem ao9 (B:Bk) (p:Int) (i:Nat):(aoH B p).pairs[i]? =(B.pairs[i]?).map fun q=>{q with calls:=q.calls.map (aoL p)}:=by simp[aoH]
theorem aoT (B:Bk) (p:Int):(aoH B p).pairs.length=B.pairs.length:=by simp[aoH]
theorem aoY {w u:wD} {V:BkV} {B:Bk} (hs:aB w V B) (p:Int) {n:Nat} {v:vL} {vs:List (Int×Int×vL)} (hb:bX w.heap.size w u) (ho:u.ownsRow n 56 3 v B.pairs.length (tri vs)) (hg:GrP u n (aoH B p).pairs vs):
  ∃a c,v= sL a B.pairs.length c/\aB u {V with pa:=a,pc:=c} (aoH B p)/\bG u a/\(a=none->c=0):=by
 have hs2:=hs.below hb (nR _);have hcl: ∀(i:Nat) (q:Pr),(aoH B p).pairs[i]? =some q->q.calls.length<=1000000:=fun i q hq=>by
  rw[ao9] at hq;obtain⟨q0,h0,rfl⟩:=Option.map_eq_some_iff.1 hq;obtain⟨_,_,_,_,_,_,_,_,_,h7⟩:=hs.pairs i q0 h0;simpa using h7
 by_cases h0:B.pairs.length=0
 ·have hv:v= sL none 0 0\/ ∃g c,v= sL (some ⟨g,0,none⟩) 0 c:=by
   obtain⟨_,⟨e,_⟩ |⟨g,cap,cur,e,_⟩⟩:=ho
   ·exact .inl e
   ·exact .inr ⟨g,cap,by rw[e,h0]⟩
  have hp0:(aoH B p).pairs= []:=List.eq_nil_of_length_eq_zero (by rw[aoT,h0]);have hbk: ∀a c,aB u {V with pa:=a,pc:=c} (aoH B p):=fun a c=>⟨hs2.towns,hs2.links,fun j q hq=>by rw[hp0] at hq;simp at hq,hs.nt,hs.nl,by rw[aoT];exact hs.np,hs.tc⟩;rw[h0]
  rcases hv with rfl |⟨g,c,rfl⟩
  ·exact⟨none,0,rfl,hbk _ _,fun ad e=>(by cases e),fun _=>rfl⟩
  ·rw[h0] at ho;exact⟨_,c,rfl,hbk _ _,(aan ho).1,(aan ho).2⟩
 ·have hr:=ho;obtain⟨g,gc,rfl,hg1,hg2,hcell,_,hgc,hgm⟩:=ru ho (by omega);refine⟨_,gc,rfl,⟨hs2.towns,hs2.links,fun j q hq=> ?_,hs.nt,hs.nl,by rw[aoT];exact hs.np,hs.tc⟩,(aan hr).1,fun e=>by cases e⟩;obtain⟨a,c,h1,h2⟩:=hg.2 j q hq;obtain⟨t0,t1,t2⟩:=ET _ _ _ h1;exact⟨g,0,a,c,rfl,by rw[Nat.zero_add];exact hcell _ _ t0,by rw[Nat.zero_add];exact hcell _ _ t1,by rw[Nat.zero_add];exact hcell _ _ t2,h2.sl,hcl j q hq⟩
theorem apn (l:List (Int×Int)) (x:Int×Int):duo (l++ [x])=duo l++ [iN qi x.1,iN qi x.2]:=by
 induction l with
 |nil=>rfl
 |cons y l ih=>simp only[List.cons_append,duo,ih]
theorem apo {l:List (Int×Int)} {m:Nat} {x:Int×Int} (h:l[m]? =some x):duo (l.take (m+1))=duo (l.take m)++ [iN qi x.1,iN qi x.2]:=by
 rw[List.take_add_one,h];exact apn _ _
theorem apq (l:List (Int×Int×vL)) (x:Int×Int×vL):tri (l++ [x])=tri l++ [iN qi x.1,iN qi x.2.1,x.2.2]:=by rw[ah2];rfl
theorem aoU {w:wD} {n s m b o:Nat} {e:TypeId} {v:vL} {xs:List vL} (h:w.ownsRow n e s v m xs) (hb:b<n) (x:vL):(w.setCell ⟨b,o,none⟩ x).ownsRow n e s v m xs:=by
 obtain⟨h1,h2 |⟨g,cap,cur,e1,hg,hrow,h3⟩⟩:=h
 ·exact⟨h1,.inl h2⟩
 ·refine⟨h1,.inr ⟨g,cap,cur,e1,hg, ?_,h3⟩⟩;rw[Go.Deep.blk_setCell_other _ _ _ _ (show g≠b by omega)];exact hrow
structure GrK (w:wD) (ta la pa:Option aD) (tc lc pc:Nat) (B:Bk) (p:Int) (k:Nat) (v:vL) (u:wD):Prop where
 bk:dW u w.heap.size (iN qi B.hours) (sL ta B.towns.length tc) (sL la B.links.length lc) (sL pa B.pairs.length pc)
 rz:dW u (w.heap.size+1) (iN qi 0) (sL none 0 0) (sL none 0 0) (sL none 0 0)
 ro:dW u (w.heap.size+1+1) (iN qi B.hours) (sL ta B.towns.length tc) (sL la B.links.length lc) v
 own: ∃vs,u.ownsRow (w.heap.size+1+1+1) 56 3 v k (tri vs)/\GrP u (w.heap.size+1+1+1) ((aoH B p).pairs.take k) vs
 below:bX w.heap.size w u
 sz:w.heap.size+1+1+1<=u.heap.size
structure Pbx (u:wD) (b:Nat) (x y:Int) (v:vL):Prop where
 c0:u.cell? ⟨b,0,none⟩=some (iN qi x)
 c1:u.cell? ⟨b,1,none⟩=some (iN qi y)
 c2:u.cell? ⟨b,2,none⟩=some v
 f: ∀j,u.frozen? ⟨b,j,none⟩=false
theorem Pbx.set {u:wD} {b:Nat} {x y:Int} {v:vL} (h:Pbx u b x y v) (v':vL):Pbx (u.setCell ⟨b,2,none⟩ v') b x y v':=
 ⟨by rw[wO _ _ _ _ (by intro e;simp at e)];exact h.c0,by rw[wO _ _ _ _ (by intro e;simp at e)];exact h.c1,World.cell?_setCell_same _ _ _ h.c2,fun j=>by rw[World.frozen?_setCell];exact h.f j⟩
theorem Pbx.at {u u':wD} {b:Nat} {x y:Int} {v:vL} (h:Pbx u b x y v) (hb:u'.heap[b]? =u.heap[b]?):Pbx u' b x y v:=by
 have hc: ∀o,u'.cell? ⟨b,o,none⟩=u.cell? ⟨b,o,none⟩:=fun o=>by simp[World.cell?,hb]
 have hf: ∀o,u'.frozen? ⟨b,o,none⟩=u.frozen? ⟨b,o,none⟩:=fun o=>by simp[World.frozen?,hb]
 exact⟨(hc 0).trans h.c0,(hc 1).trans h.c1,(hc 2).trans h.c2,fun j=>(hf j).trans (h.f j)⟩
theorem apr {u u':wD} {o1 o2:Obj} {b n:Nat} {x y:Int} {v r:vL} (h:Pbx u b x y v) (hr: ∀j,r.ownBlock=some j->b+1<=j/\j<n) (hg:((u.alloc o1).alloc o2).grownBy u' r.ownBlock):Pbx u' b x y v:=by
 have hz:=wBk u _ h.c0;have h1:((u.alloc o1).alloc o2).heap[b]? =u.heap[b]? :=by
  rw[Below.heap_alloc _ _ b (by rw[World.size_alloc];exact Nat.lt_succ_of_lt hz),Below.heap_alloc _ _ b hz]
 refine h.at ((hg.block b (by simp only[World.size_alloc];exact Nat.lt_succ_of_lt (Nat.lt_succ_of_lt hz)) fun e=> ?_).trans h1);have:=(hr b e.symm).1;omega
theorem apa {w u:wD} {base sz n:Nat} {e:TypeId} {v:vL} {xs:List vL} (h:w.ownsRow base e sz v n xs) (hb:bX w.heap.size w u):u.ownsRow base e sz v n xs:=by
 obtain⟨h1,h2 |⟨g,cap,cur,h3,h4,h5,h6⟩⟩:=h
 ·exact⟨h1,.inl h2⟩
 ·exact⟨h1,.inr ⟨g,cap,cur,h3,h4,(hb.block g (aS.1 h5).1).trans h5,h6⟩⟩
theorem dW.at {u u':wD} {b:Nat} {a0 a1 a2 a3:vL} (h:dW u b a0 a1 a2 a3) (hb:u'.heap[b]? =u.heap[b]?):dW u' b a0 a1 a2 a3:=by
 have hc: ∀o,u'.cell? ⟨b,o,none⟩=u.cell? ⟨b,o,none⟩:=fun o=>by simp[World.cell?,hb]
 have hf: ∀o,u'.frozen? ⟨b,o,none⟩=u.frozen? ⟨b,o,none⟩:=fun o=>by simp[World.frozen?,hb]
 obtain⟨_,c0,c1,c2,c3,f0,f1,f2,f3⟩:=h;exact aij ((hc 0).trans c0) ((hc 1).trans c1) ((hc 2).trans c2) ((hc 3).trans c3) ((hf 0).trans f0) ((hf 1).trans f1) ((hf 2).trans f2) ((hf 3).trans f3)
theorem dW.put3 {u:wD} {b:Nat} {a0 a1 a2 a3:vL} (h:dW u b a0 a1 a2 a3) (v:vL):dW (u.setCell ⟨b,3,none⟩ v) b a0 a1 a2 v:=by
 obtain⟨_,c0,c1,c2,c3,f0,f1,f2,f3⟩:=h;refine aij ?_ ?_ ?_ (World.cell?_setCell_same _ _ _ c3) ?_ ?_ ?_ ?_<;>go_simp
theorem GrK.next {w:wD} {ta la pa:Option aD} {tc lc pc:Nat} {B:Bk} {p:Int} {k:Nat} {v v':vL} {wA wr w5:wD} {vs:List (Int×Int×vL)} {one two:Int} {l:List (Int×Int)} {a:Option aD} {c:Nat} {o:Obj} (h:GrK w ta la pa tc lc pc B p k v wA) (hov:wA.ownsRow (w.heap.size+1+1+1) 56 3 v k (tri vs)) (hgp:GrP wA (w.heap.size+1+1+1) ((aoH B p).pairs.take k) vs)
  (hb:bX wA.heap.size wA wr) (hrw:RwB wr (wA.heap.size+1) a l) (hq:(aoH B p).pairs[k]? =some ⟨one,two,l⟩) (hown:w5.ownsRow (w.heap.size+1+1+1) 56 3 v' (k+1) (tri vs++ [iN qi one,iN qi two,sL a l.length c])) (hg:(wr.alloc o).grownBy w5 v.ownBlock):
  GrK w ta la pa tc lc pc B p (k+1) v' (w5.setCell ⟨w.heap.size+1+1,3,none⟩ v'):=by
 have hz:=h.sz;have hzr:=hb.size;have hvb: ∀j,v.ownBlock=some j->w.heap.size+1+1+1<=j/\j<wA.heap.size:=fun j hj=>hov.lt j hj;have hblk: ∀b,b<w.heap.size+1+1+1->w5.heap[b]? =wA.heap[b]? :=fun b hbz=>by
  rw[hg.block b (by rw[World.size_alloc];omega) fun e=>by have:=hvb b e.symm;omega,Below.heap_alloc _ _ b (by omega),hb.block b (by omega)]
 have hovr:=apa hov hb;have hka:KpB (w.heap.size+1+1+1) wr (wr.alloc o):=KpB.below ((bR _ _).alloc (nR _) _);have hkg:KpB (w.heap.size+1+1+1) (wr.alloc o) w5:=KpB.grown (hovr.alloc o) (by decide) hg;have hks:KpB (w.heap.size+1+1+1) w5 (w5.setCell ⟨w.heap.size+1+1,3,none⟩ v'):=KpB.set (Nat.lt_succ_self _) _;have hk1:=(hka.trans hkg).trans hks;have hk0:=(KpB.below (n:=w.heap.size+1+1+1) hb).trans hk1;have hb5:bX w.heap.size w w5:=(h.below.trans (hb.mono (by omega))).trans ((((bR wr.heap.size wr).alloc (nR _) o).mono (by omega)).grown hg (by rw[World.size_alloc];omega) (fun j hj=>by have:=hvb j hj;omega));refine⟨((h.bk.at (hblk _ (by omega))).other (by omega)),((h.rz.at (hblk _ (by omega))).other (by omega)),(h.ro.at (hblk _ (by omega))).put3 v',⟨vs++ [(one,two,sL a l.length c)], ?_, ?_⟩,hb5.setCell (p:=⟨w.heap.size+1+1,3,none⟩) (show w.heap.size<=w.heap.size+1+1 by omega) _, ?_⟩
 ·rw[apq];exact aoU hown (Nat.lt_succ_self _) _
 ·rw[List.take_add_one,hq];exact GrP.snoc (q:=⟨one,two,l⟩) (hgp.keep hk0) c ((hrw.base (by omega)).at hk1)
 ·have:=hg.size;simp only[World.size_setCell];rw[World.size_alloc] at this;omega
theorem aps {w:wD} {n k:Nat} {v:vL} {xs l:List vL} {z1 z2 c1 c2:Int} (h:w.ownsRow n 43 2 v k (xs++ [iN qi z1,iN qi z2])) (e:l=xs++ [iN qi c1,iN qi c2]) (h1:c1=z1) (h2:c2=z2):w.ownsRow n 43 2 v k l:=by
 subst h1 h2 e;exact h
theorem r68 (V:BkV) (B:Bk) (hG:Good B) (p:Int) (hp:0<=p/\p<=100) (w:wD) (hs:aB w V B):
  Calls tP 68 #[V.val B,iN qi p] w fun e w'=> ∃a c,e= rT (({V with pa:=a,pc:=c}:BkV).val (aoH B p))/\aB w' {V with pa:=a,pc:=c} (aoH B p)/\bG w' a/\(a=none->c=0)/\bX w.heap.size w w':=by
 obtain⟨ta,la,pa,tc,lc,pc⟩:=V;have HEnd:Hid (∀v u,GrK w ta la pa tc lc pc B p B.pairs.length v u-> ∃a c,v= sL a B.pairs.length c/\aB u ⟨ta,la,a,tc,lc,c⟩ (aoH B p)/\bG u a/\(a=none->c=0)):=lH fun v u h=>by
  obtain⟨vs,h1,h2⟩:=h.own;rw[List.take_of_length_le (by rw[aoT];exact nR _)] at h2;exact aoY hs p h.below h1 h2
 have Hs:=lH hs;have hnp:=hG.fine.pairs;have hcalls:=hG.fine.calls;have hhr:=hG.fine.hours;obtain⟨i7,hi7,hz7,hy7,hw7⟩:=info_parts Zq;obtain⟨i5,hi5,hz5,hy5,hw5⟩:=info_parts MG;have HG:=lH hG;clear hs hG;go_enter Tryz.func68,Tryz.ntmps68
 go_wp2_with fail
 go_loopw [6] (fun i wr=> ∃(k:Nat) (v:vL),k<=B.pairs.length/\i= iN qi (k:Int)/\GrK w ta la pa tc lc pc B p k v wr) (fun i _=>B.pairs.length-(intOf i).toNat)
 case atStart=>
  refine⟨0,sL none 0 0,Nat.zero_le _,rfl, ?_⟩;have h4:=ahT w 26 (iN qi B.hours) (sL ta B.towns.length tc) (sL la B.links.length lc) (sL pa B.pairs.length pc);have hb0:=(bR w.heap.size w).alloc (nR _) (cL #[iN qi B.hours,sL ta B.towns.length tc,sL la B.links.length lc,sL pa B.pairs.length pc] 26);have hz0:(w.alloc (cL #[iN qi B.hours,sL ta B.towns.length tc,sL la B.links.length lc,sL pa B.pairs.length pc] 26)).heap.size=w.heap.size+1:=by simp
  generalize w.alloc (cL #[iN qi B.hours,sL ta B.towns.length tc,sL la B.links.length lc,sL pa B.pairs.length pc] 26)=W0 at *;have h5:=ahT W0 26 (iN qi 0) (sL none 0 0) (sL none 0 0) (sL none 0 0);have hb1:=hb0.alloc hb0.size (cL #[iN qi 0,sL none 0 0,sL none 0 0,sL none 0 0] 26);have hs1:=(bR W0.heap.size W0).alloc (nR _) (cL #[iN qi 0,sL none 0 0,sL none 0 0,sL none 0 0] 26);have hz1:(W0.alloc (cL #[iN qi 0,sL none 0 0,sL none 0 0,sL none 0 0] 26)).heap.size=w.heap.size+1+1:=by simp[hz0]
  rw[hz0] at h5;generalize W0.alloc (cL #[iN qi 0,sL none 0 0,sL none 0 0,sL none 0 0] 26)=W1 at *;have h6:=ahT W1 26 (iN qi B.hours) (sL ta B.towns.length tc) (sL la B.links.length lc) (sL none 0 0);have hb2:=hb1.alloc hb1.size (cL #[iN qi B.hours,sL ta B.towns.length tc,sL la B.links.length lc,sL none 0 0] 26);have hs2:=(bR W1.heap.size W1).alloc (nR _) (cL #[iN qi B.hours,sL ta B.towns.length tc,sL la B.links.length lc,sL none 0 0] 26);have hz2:(W1.alloc (cL #[iN qi B.hours,sL ta B.towns.length tc,sL la B.links.length lc,sL none 0 0] 26)).heap.size=w.heap.size+1+1+1:=by simp[hz1]
  rw[hz1] at h6;exact⟨(h4.below hs1 (by omega)).below hs2 (by omega),h5.below hs2 (by omega),h6,⟨[],World.ownsRow_nil _ _ _ _,GrP.nil _ _⟩,hb2,by rw[hz2];exact nR _⟩
 case round=>
  obtain⟨k,v,hk,rfl,hgr⟩:=hrel;have Hg:=lH hgr;obtain⟨⟨bz,b0,b1,b2,b3,_,_,_,_⟩,⟨_,e0,e1,e2,e3,g0,g1,g2,g3⟩,⟨ozz,o0,o1,o2,o3,of0,of1,of2,of3⟩,_,_,hsz⟩:=hgr;obtain⟨wA,hwA⟩: ∃wA,wA=wr:=⟨wr,rfl⟩;subst hwA;by_cases hlt:k<B.pairs.length
  ·have hlt2:(k:Int)<(B.pairs.length:Int):=by omega
   have hpk:B.pairs[k]? =some B.pairs[k]:=lG hlt;obtain⟨b,o,sa,sc,hpa,c0,c1,c2,hsl,hsn⟩:=Hs.out.pairs k _ hpk;simp only at hpa;subst hpa;have hx:=(hcalls k _ hpk).2;have hcap:(aoH B p).pairs[k]? =some ⟨B.pairs[k].one,B.pairs[k].two,B.pairs[k].calls.map (aoL p)⟩:=by rw[ao9,hpk];rfl
   have HCap:=lH hcap;have HSl:=lH (hsl.below Hg.out.below (nR _));have k0:=aoG Hg.out.below c0;have k1:=aoG Hg.out.below c1;have k2:=aoG Hg.out.below c2;have Hx:=lH hx;generalize B.pairs[k].one=one at *;generalize B.pairs[k].two=two at *;generalize B.pairs[k].calls=st at *;have HK2:=lH k2;have HB3:=lH b3;clear c0 c1 c2 hsl hx hpk hcap
   go_wp2_with fail
   have hbb:bX wA.heap.size wA (wA.alloc (cL #[iN qi one,iN qi two,sL none 0 0] 56)):=(bR _ _).alloc (nR _) _
   go_loopw [8] (fun j wr=> ∃(m:Nat) (v2:vL),m<=st.length/\j= iN qi (m:Int)/\Pbx wr wA.heap.size one two v2/\wr.ownsRow (wA.heap.size+1) 43 2 v2 m (duo ((st.map (aoL p)).take m))/\bX wA.heap.size wA wr/\wA.heap.size+1<=wr.heap.size) (fun j _=>st.length-(intOf j).toNat)
   case atStart=>
    refine⟨0,sL none 0 0,Nat.zero_le _,rfl,⟨by go_simp,by go_simp,by go_simp,fun j=>by go_simp⟩,World.ownsRow_nil _ _ _ _,hbb,by simp⟩
   case round=>
    obtain⟨m,v2,hm,rfl,hpx,hown,hbl,hsz2⟩:=hrel;have Hbl:=lH hbl;have Hown:=lH hown;have Hpx:=lH hpx;have b3':=aoG hbl HB3.out;have k2':=aoG hbl HK2.out;have hwl:wA.heap.size<wr.heap.size:=by omega
    clear hbl hown hpx;by_cases hml:m<st.length
    ·have hml2:(m:Int)<(st.length:Int):=by omega
     obtain⟨q,r,rfl,s0,s1⟩:=HSl.out m _ (lG hml);have s0':=aoG Hbl.out s0;have s1':=aoG Hbl.out s1;have hxx:=Hx.out m _ (lG hml);have HTk:=lH (apo (l:=st.map (aoL p)) (m:=m) (x:=aoL p st[m]) (by rw[List.getElem?_map,lG hml];rfl));generalize st[m]=x at *;obtain⟨x1,x2⟩:=x;simp only at s0' s1' hxx;have hm1:0<=x1*(100+p)/\x1*(100+p)<=2000:=⟨Int.mul_nonneg (by omega) (by omega),by
      have h1:x1*(100+p)<=5*(100+p):=Int.mul_le_mul_of_nonneg_right (by omega) (by omega);omega⟩
     have hm2:0<=x2*(100+p)/\x2*(100+p)<=2000:=⟨Int.mul_nonneg (by omega) (by omega),by
      have h1:x2*(100+p)<=5*(100+p):=Int.mul_le_mul_of_nonneg_right (by omega) (by omega);omega⟩
     have hw1:IntKind.wrap qi (x1*(100+p))=x1*(100+p):=IntWalk.i64_in _ (by omega);have hw2:IntKind.wrap qi (x2*(100+p))=x2*(100+p):=IntWalk.i64_in _ (by omega);have q2:=Hpx.out.c2;have qf:=Hpx.out.f 2;clear s0 s1;have HN:Hid (∀(z1 z2:Int) (j:Nat) (u:vL),([iN qi z1,iN qi z2]:List vL)[j]? =some u->((wr.alloc (cL #[iN qi x1,iN qi x2] 43)).alloc (cL #[iN qi z1,iN qi z2] 43)).cell? ((⟨wr.heap.size+1,0,none⟩:aD).add j)=some u):=lH fun z1 z2 j u hj=>by
      match j,hj with
      | 0,hj=>cases hj;simp only[Addr.add];go_simp
      | 1,hj=>cases hj;simp only[Addr.add];go_simp
     go_wp2_with (at_builtin;refine wpList_append_own _ rfl _ _ 54 rfl (wA.heap.size+1) 43 i5 (.agg #[iN qi 0,iN qi 0]) 2 16 Tryz.underlying54 hi5 hz5 hy5 hw5 rfl (by decide) _ _ _ rfl ((Hown.out.alloc _).alloc _) ⟨wr.heap.size+1,0,none⟩ 1 1 [iN qi _,iN qi _] rfl rfl (HN.out _ _) (by simp[Value.oneCell']) (by unfold maxLen;omega) (by omega) (by simp only[World.size_alloc];omega) ?_)
     all_goals
      intro v' w4 hown'' hgrow _;have hown':=aps hown'' HTk.out (by simp only[aoL,aoS,upC];omega) (by simp only[aoL,aoS,upC];omega);obtain⟨g',c',rfl,_⟩:=ru hown' (Nat.succ_le_succ (Nat.zero_le m));have hb4:bX wA.heap.size wA w4:=((Hbl.out.alloc Hbl.out.size _).alloc (by simp only[World.size_alloc];omega) _).grown hgrow (by simp only[World.size_alloc];omega) (fun j hj=>Nat.le_of_succ_le (Hown.out.lt j hj).1);have hp4:Pbx w4 wA.heap.size one two v2:=apr Hpx.out (Hown.out.lt) hgrow;have hsz4:wA.heap.size+1<=w4.heap.size:=by have:=hgrow.size;simp only[World.size_alloc] at this;omega
      have q4:=hp4.c2;have qf4:=hp4.f 2;have HR:Hid (Pbx (w4.setCell ⟨wA.heap.size,2,none⟩ (sL (some ⟨g',0,none⟩) (m+1) c')) wA.heap.size one two (sL (some ⟨g',0,none⟩) (m+1) c')/\(w4.setCell ⟨wA.heap.size,2,none⟩ (sL (some ⟨g',0,none⟩) (m+1) c')).ownsRow (wA.heap.size+1) 43 2 (sL (some ⟨g',0,none⟩) (m+1) c') (m+1) (duo ((st.map (aoL p)).take (m+1)))/\bX wA.heap.size wA (w4.setCell ⟨wA.heap.size,2,none⟩ (sL (some ⟨g',0,none⟩) (m+1) c'))/\wA.heap.size+1<=(w4.setCell ⟨wA.heap.size,2,none⟩ (sL (some ⟨g',0,none⟩) (m+1) c')).heap.size):=lH ⟨hp4.set _,aoU hown' (Nat.lt_succ_self _) _,hb4.setCell (p:=⟨wA.heap.size,2,none⟩) (nR _) _,by simpa using hsz4⟩;clear hown' hown'' hgrow hp4 hb4;go_wp2;go_roundw
      case rel=>exact⟨m+1,sL (some ⟨g',0,none⟩) (m+1) c',by omega,by go_num,HR.out⟩
      case measure=>simp[intOf];omega
    ·have hml2: ¬(m:Int)<(st.length:Int):=by omega
     obtain rfl:m=st.length:=by omega
     have hcl:(st.map (aoL p)).length=st.length:=by simp
     have ho2:=Hown.out;rw[List.take_of_length_le (by omega)] at ho2;obtain⟨a2,c2',hv2,hrw⟩:=apm (l:=st.map (aoL p)) (by rw[hcl];exact ho2);rw[hcl] at hv2;subst hv2;clear ho2;obtain⟨vs,hov,hgp⟩:=Hg.out.own;have Hov:=lH (apa hov Hbl.out);have Hrw:=lH (And.intro hov (And.intro hgp hrw));have o3':=aoG Hbl.out o3;have of3':wr.frozen? ⟨w.heap.size+1+1,3,none⟩=false:=by rw[(ak Hbl.out).2 _ _ ozz];exact of3
     obtain⟨q0,q1,q2,_⟩:=Hpx.out;have hzr:w.heap.size+1+1+1<=wr.heap.size:=by omega
     have HN:Hid (∀(j:Nat) (u:vL),([iN qi one,iN qi two,sL a2 st.length c2']:List vL)[j]? =some u->(wr.alloc (cL #[iN qi one,iN qi two,sL a2 st.length c2'] 56)).cell? ((⟨wr.heap.size,0,none⟩:aD).add j)=some u):=lH fun j u hj=>by
      match j,hj with
      | 0,hj=>cases hj;simp only[Addr.add];go_simp
      | 1,hj=>cases hj;simp only[Addr.add];go_simp
      | 2,hj=>cases hj;simp only[Addr.add];go_simp
     clear hov hgp hrw hcl
     go_wp2_with (at_builtin;refine wpList_append_own _ rfl _ _ 24 rfl (w.heap.size+1+1+1) 56 i7 (.agg #[iN qi 0,iN qi 0,sL none 0 0]) 3 40 Tryz.underlying24 hi7 hz7 hy7 hw7 rfl (by decide) _ _ _ rfl (Hov.out.alloc _) ⟨wr.heap.size,0,none⟩ 1 1 [iN qi one,iN qi two,sL a2 st.length c2'] rfl rfl HN.out (by simp[Value.oneCell']) (by unfold maxLen;omega) (by omega) (by simp only[World.size_alloc];omega) ?_)
     intro v' w5 hown' hgrow _;obtain⟨g',c',rfl,_⟩:=ru hown' (Nat.succ_le_succ (Nat.zero_le k));have HR:Hid (GrK w ta la (some ⟨b,o,none⟩) tc lc pc B p (k+1) (sL (some ⟨g',0,none⟩) (k+1) c') (w5.setCell ⟨w.heap.size+1+1,3,none⟩ (sL (some ⟨g',0,none⟩) (k+1) c'))):=lH (Hg.out.next (l:=st.map (aoL p)) (a:=a2) (c:=c2') Hrw.out.1 Hrw.out.2.1 Hbl.out Hrw.out.2.2 HCap.out (by rw[List.length_map];exact hown') hgrow);have hr5:w5.cell? ⟨w.heap.size+1+1,3,none⟩=some v/\w5.frozen? ⟨w.heap.size+1+1,3,none⟩=false:=by
      have hv:=Hov.out.lt;have hblk:w5.heap[w.heap.size+1+1]? =wr.heap[w.heap.size+1+1]? :=by
       rw[hgrow.block _ (by rw[World.size_alloc];omega) fun e=>by have:=hv _ e.symm;omega,Below.heap_alloc _ _ _ (by omega)]
      exact⟨by simp only[World.cell?,hblk];exact o3',by simp only[World.frozen?,hblk];exact of3'⟩
     obtain⟨r5,rf5⟩:=hr5;clear hown' hgrow;go_wp2;go_roundw
     case rel=>exact⟨k+1,sL (some ⟨g',0,none⟩) (k+1) c',by omega,by go_num,HR.out⟩
     case measure=>simp[intOf];omega
  ·have hlt2: ¬(k:Int)<(B.pairs.length:Int):=by omega
   obtain rfl:k=B.pairs.length:=by omega
   obtain⟨vs,hov,hgp⟩:=Hg.out.own;rw[List.take_of_length_le (by rw[aoT];exact nR _)] at hgp;obtain⟨a,c,rfl,_⟩:=aoY Hs.out p Hg.out.below hov hgp;have hF:Hid (∀x0 x1 x2 x3,bX w.heap.size w ((((wA.setCell ⟨w.heap.size+1,0,none⟩ x0).setCell ⟨w.heap.size+1,1,none⟩ x1).setCell ⟨w.heap.size+1,2,none⟩ x2).setCell ⟨w.heap.size+1,3,none⟩ x3)/\aB ((((wA.setCell ⟨w.heap.size+1,0,none⟩ x0).setCell ⟨w.heap.size+1,1,none⟩ x1).setCell ⟨w.heap.size+1,2,none⟩ x2).setCell ⟨w.heap.size+1,3,none⟩ x3) ⟨ta,la,a,tc,lc,c⟩ (aoH B p)/\bG ((((wA.setCell ⟨w.heap.size+1,0,none⟩ x0).setCell ⟨w.heap.size+1,1,none⟩ x1).setCell ⟨w.heap.size+1,2,none⟩ x2).setCell ⟨w.heap.size+1,3,none⟩ x3) a/\(a=none->c=0)):=lH fun x0 x1 x2 x3=>by
    have hb:=aik (b:=w.heap.size+1) Hg.out.below (by omega) rfl x0 x1 x2 x3;have hl:w.heap.size+1<w.heap.size+1+1+1:=by omega
    have ho:=aoU (aoU (aoU (aoU hov hl x0 (o:=0)) hl x1 (o:=1)) hl x2 (o:=2)) hl x3 (o:=3);have hg:=hgp.keep ((((KpB.set hl x0 (w:=wA) (k:=0)).trans (KpB.set hl x1 (k:=1))).trans (KpB.set hl x2 (k:=2))).trans (KpB.set hl x3 (k:=3)));obtain⟨a',c',e,h1,h2,h3⟩:=aoY Hs.out p hb ho hg
    cases e
    exact⟨hb,h1,h2,h3⟩
   clear hov hgp;go_wp2;refine bodyPost_ret (v:= .agg #[iN qi B.hours,sL ta B.towns.length tc,sL la B.links.length lc,sL a B.pairs.length c]) (by simp[results,Tryz.results68,go_sem,e0,e1,e2,e3]) rfl ?_;obtain⟨h1,h2,h3,h4⟩:=hF.out (iN qi B.hours) (sL ta B.towns.length tc) (sL la B.links.length lc) (sL a B.pairs.length c);exact⟨a,c,by simp[BkV.val,aoH],h2,h3,h4,h1⟩
def Rw (w:wD) (a:Option aD) (c:Nat) (l:List Int):Prop:=(a=none/\c=0/\l= [])\/ ∃b cur fz,a=some ⟨b,0,none⟩/\w.heap[b]? =some (cL cur 3 fz)/\ ∀(j:Nat) (x:Int),l[j]? =some x->cur[j]? =some (iN qi x)
theorem ana {w:wD} {b j:Nat} {cur:Array vL} {e:TypeId} {fz:Nat×Nat} {u:vL} (h:w.heap[b]? =some (cL cur e fz)) (hj:cur[j]? =some u):w.cell? ⟨b,j,none⟩=some u:=by
 simp[World.cell?,h,hj]
theorem Rw.sl {w:wD} {a:Option aD} {c:Nat} {l:List Int} (h:Rw w a c l):SlI w a l:=fun i x hx=>by
 rcases h with ⟨_,_,rfl⟩ |⟨b,cur,fz,rfl,hb,hc⟩
 ·simp at hx
 ·exact⟨b,0,rfl,by rw[Nat.zero_add];exact ana hb (hc i x hx)⟩
def Kp (w w':wD):Prop:= ∀(b:Nat) (cur:Array vL) (fz:Nat×Nat),w.heap[b]? =some (cL cur 3 fz)->w'.heap[b]? =w.heap[b]?
theorem Rw.keep {w w':wD} {a:Option aD} {c:Nat} {l:List Int} (h:Rw w a c l) (k:Kp w w'):Rw w' a c l:=by
 rcases h with h |⟨b,cur,fz,e,hb,hc⟩
 ·exact .inl h
 ·exact .inr ⟨b,cur,fz,e,(k b cur fz hb).trans hb,hc⟩
theorem Kp.below {w w':wD} (h:bX w.heap.size w w'):Kp w w':=fun b _ _ hb=>h.block b (aS.1 hb).1
theorem Kp.trans {a b c:wD} (h:Kp a b) (k:Kp b c):Kp a c:=fun n cur fz hn=>(k n cur fz ((h n cur fz hn).trans hn)).trans (h n cur fz hn)
theorem Kp.grown {w w':wD} {v:vL} {base n s:Nat} {e:TypeId} {xs:List vL} (ho:w.ownsRow base e s v n xs) (he:e≠3) (hg:w.grownBy w' v.ownBlock):Kp w w':=fun b cur fz hb=>
 hg.block b (aS.1 hb).1 fun h=>by
  rcases ho.2 with ⟨rfl,_⟩ |⟨g,cap,cr,rfl,_,hgg,_⟩
  ·simp[Value.ownBlock] at h
  ·simp only[Value.ownBlock,oI] at h;subst h;rw[hgg] at hb;simp only[oI,Obj.cells.injEq] at hb;exact he hb.2.1
def LsR (w:wD) (base:Nat) (v:vL) (ls:List (List Int)):Prop:= ∃vs:List vL,w.ownsRow base 33 1 v ls.length vs/\ ∀(j:Nat) (l:List Int),ls[j]? =some l-> ∃a c,vs[j]? =some (sL a l.length c)/\Rw w a c l
theorem LsR.nil (w:wD) (base:Nat):LsR w base (sL none 0 0) []:=⟨[],World.ownsRow_nil _ _ _ _,fun j l h=>by simp at h⟩
theorem LsR.len {w:wD} {base:Nat} {v:vL} {ls:List (List Int)} (h:LsR w base v ls): ∃vs:List vL,vs.length=ls.length/\w.ownsRow base 33 1 v ls.length vs/\ ∀(j:Nat) (l:List Int),ls[j]? =some l-> ∃a c,vs[j]? =some (sL a l.length c)/\Rw w a c l:=by
 obtain⟨vs,h1,h2⟩:=h;exact⟨vs,by rw[h1.1,Nat.mul_one],h1,h2⟩
def aey (B:Bk) (most:Bool) (h n:Nat):List Int:=(List.range n).map (B.call most h)
theorem aeY (B:Bk) (most:Bool) (h n:Nat):ints (aey B most h (n+1))=ints (aey B most h n)++ [iN qi (B.call most h n)]:=by
 unfold aey ints;rw[List.range_succ];simp
theorem c60 (V:BkV) (B:Bk) (most:Bool) (h:Nat) (w:wD) (hs:aB w V B) (hG:Good B) (hh:(h:Int)<B.hours):
  Calls tP 100 #[V.val B,iN qi (h:Int),.bool most] w fun e w'=> ∃v,e= rT v/\w'.ownsRow w.heap.size 3 1 v B.pairs.length (ints (aey B most h B.pairs.length))/\bX w.heap.size w w':=by
 obtain⟨ta,la,pa,tc,lc,pc⟩:=V;have hnp:=hG.fine.pairs;have HC:Hid (∀k,k<B.pairs.length-> ∃b o sb so n sc lo up,pa=some ⟨b,o,none⟩/\(∀u,bX w.heap.size w u->u.cell? ⟨b,o+k*3+2,none⟩=some (sL (some ⟨sb,so,none⟩) n sc)/\u.cell? ⟨sb,so+h*2,none⟩=some (iN qi lo)/\u.cell? ⟨sb,so+h*2+1,none⟩=some (iN qi up))/\h<n/\B.call most h k=if most then up else lo):=lH fun k hk=>by
  have hx:B.pairs[k]? =some B.pairs[k]:=lG hk;obtain⟨b,o,sa,sc,e,_,_,h3,h4,_⟩:=hs.pairs k _ hx;have hc:=(hG.fine.calls k _ hx).1;have hlt:h<B.pairs[k].calls.length:=by omega
  have hy:B.pairs[k].calls[h]? =some B.pairs[k].calls[h]:=lG hlt;obtain⟨sb,so,e2,g0,g1⟩:=h4 h _ hy;subst e2;refine⟨b,o,sb,so,_,sc,_,_,e,fun u hu=>⟨aoF hu h3 (nR _),aoF hu g0 (nR _),aoF hu g1 (nR _)⟩,hlt, ?_⟩;unfold Bk.call;rw[hx];simp only[Option.bind_some,hy]
 clear hs hG hh;obtain⟨i0,hi,hz0,hz1,hz2⟩:=info_parts info3;go_enter Tryz.func100,Tryz.ntmps100
 go_wp2_with fail
 generalize hWd:w.alloc (cL #[iN qi B.hours,sL ta B.towns.length tc,sL la B.links.length lc,sL pa B.pairs.length pc] 26)=W;have HBW:Hid (bX w.heap.size w W):=lH (by subst hWd;exact(bR _ _).alloc (nR _) _);have HW3:Hid (W.cell? ⟨w.heap.size,3,none⟩=some (sL pa B.pairs.length pc)):=lH (by subst hWd;go_simp);clear hWd
 go_loopw [7,8] (fun v i wr=> ∃k:Nat,k<=B.pairs.length/\i= iN qi (k:Int)/\wr.ownsRow W.heap.size 3 1 v k (ints (aey B most h k))/\bX W.heap.size W wr) (fun _ i _=>B.pairs.length-(intOf i).toNat)
 case atStart=>exact⟨0,Nat.zero_le _,rfl,World.ownsRow_nil _ _ _ _,bR _ _⟩
 case round=>
  obtain⟨k,hk,rfl,hown,hb⟩:=hrel;have Hown:=lH hown;have Hb:=lH hb;clear hown hb;have k3:=aoF Hb.out HW3.out (nR _);by_cases hlt:k<B.pairs.length
  ·obtain⟨b,o,sb,so,n,sc,lo,up,e,hcs,hn,hval⟩:=HC.out k hlt;subst e;obtain⟨c0,c1,c2⟩:=hcs wr (HBW.out.trans (Hb.out.mono HBW.out.size));have z0:=wBk _ _ c0;have z1:=wBk _ _ c1;have hhn:(h:Int)<(n:Int):=by omega
   have Hval:=lH hval;have Hsn:=lH (aeY B most h k);clear hcs hval;generalize B.call most h k=y at *;have hkp:(k:Int)<(B.pairs.length:Int):=by omega
   have HB9:=lH (Hb.out.alloc Hb.out.size (cL #[iN qi lo,iN qi up] 43));have HO9:=lH (Hown.out.alloc (cL #[iN qi lo,iN qi up] 43));have HN:Hid (∀(z:Int) (j:Nat) (u:vL),([iN qi z]:List vL)[j]? =some u->((wr.alloc (cL #[iN qi lo,iN qi up] 43)).alloc (cL #[iN qi z] 3)).cell? ((⟨wr.heap.size+1,0,none⟩:aD).add j)=some u):=lH fun z j u hj=>by
    match j,hj with
    | 0,hj=>cases hj;simp only[Addr.add];go_simp
   have H1c:Hid (∀(z:Int),∀u∈([iN qi z]:List vL),u.oneCell'=true):=lH fun z=>by simp[Value.oneCell']
   have Hb63:Hid (k+1<=maxLen):=lH (by unfold maxLen;omega);have Hbb:Hid ((k+1)*8<=140737488355328):=lH (by omega);have Hsz:Hid (W.heap.size<=wr.heap.size+1+1):=lH (by have:=Hb.out.size;omega)
   cases most
   all_goals
    simp only[Bool.false_eq_true,if_true,if_false] at Hval;have hy:=Hval.out;subst hy
    go_wp2_with (at_builtin;refine wpList_append_own _ rfl _ _ 33 rfl W.heap.size 3 i0 (iN qi 0) 1 8 Tryz.underlying33 hi hz0 hz1 hz2 rfl (by decide) _ _ _ rfl (HO9.out.alloc _) ⟨wr.heap.size+1,0,none⟩ 1 1 [iN qi y] rfl rfl (HN.out y) (H1c.out y) Hb63.out Hbb.out (by simp only[World.size_alloc];exact Hsz.out) ?_)
    intro v' w4 hown' hgrow _;have R:=Bo HB9.out HO9.out hown' hgrow;rw[<-Hsn.out] at R;have HR:=lH R;clear hown' hgrow R;go_wp2;go_roundw
    case rel=>exact⟨k+1,by omega,by go_num,HR.out.1,HR.out.2⟩
    case measure=>simp[intOf];omega
  ·have hke:k=B.pairs.length:=by omega
   rw[hke] at Hown;have Hbk:=lH (HBW.out.trans (Hb.out.mono HBW.out.size));clear hke;go_wp2;go_ret;exact⟨_,rfl,Hown.out.base HBW.out.size,Hbk.out⟩
theorem c73 (h:Int) (t:Option aD) (n tc:Nat) (la:Option aD) (ln lc:Nat) (p:Option aD) (pn pc:Nat) (w:wD) (h1:1<=n) (hn:n<=1000000):
  Calls tP 62 #[.agg #[iN qi h,sL t n tc,sL la ln lc,sL p pn pc]] w fun e w'=>e= rT (iN qi ((n-1 :Nat):Int))/\bX w.heap.size w w':=by
 have hw:IntKind.wrap qi ((n:Int)-1)=((n-1 :Nat):Int):=(IntWalk.i64_in _ (by omega)).trans (by omega);go_enter Tryz.func62,Tryz.ntmps62;go_wp2;go_ret;exact⟨rfl,(bR _ _).alloc (nR _) _⟩
theorem alP {xs:List Int} {k:Nat} {x:Int} (hx:xs[k]? =some x):dN (xs.take (k+1))=(dN (xs.take k)|| !btw x 0 20):=by
 unfold dN;rw[List.take_add_one,hx,List.any_append];simp
theorem alQ {xs:List Int} {k:Nat} (h:dN (xs.take k)=true):dN xs=true:=by
 unfold dN at *;rw[List.any_eq_true] at *;obtain⟨x,hx,h2⟩:=h;exact⟨x,List.mem_of_mem_take hx,h2⟩
theorem c58 (V:BkV) (B:Bk) (xs:List Int) (xa:Option aD) (xc:Nat) (w:wD) (hs:aB w V B) (hz: ∀t∈B.towns,t.size<=1000000) (hx:SlI w xa xs) (hxl:xs.length<=1000000):
  Calls tP 55 #[V.val B,sL xa xs.length xc] w fun e w'=>e= rT (iN qi (aH B xs true))/\bX w.heap.size w w':=by
 obtain⟨ta,la,pa,tc,lc,pc⟩:=V;have hb0:bX w.heap.size w (w.alloc (cL #[iN qi B.hours,sL ta B.towns.length tc,sL la B.links.length lc,sL pa B.pairs.length pc] 26)):=(bR _ _).alloc (nR _) _;have HC:=lH (c20 ⟨ta,la,pa,tc,lc,pc⟩ B _ (hs.below hb0 (nR _)) hz);have HB0:=lH hb0;have HX:=lH hx;have HL:=lH hs.nl;clear hs hb0 hz hx;simp only[BkV.val];by_cases h0:B.alarm=0
 ·rw[h0] at HC;by_cases h1:xs.length=B.links.length
  ·have HR:Hid (aH B xs true=if dN xs then 1 else 0):=lH (by unfold aH;rw[if_pos h0,if_pos h1];rfl);generalize aH B xs true=R at *;clear h0;go_enter Tryz.func55,Tryz.ntmps55
   go_wp2_with fail
   refine HC.out.mono ?_;rintro e w1 ⟨rfl,hb1⟩;have HB1:=lH (HB0.out.trans (hb1.mono (by simp)));have k2:w1.cell? ⟨w.heap.size,2,none⟩=some (sL la xs.length lc):=by rw[(ak hb1).1 _ _ (by simp),h1];go_simp
   clear hb1 h1 HC HB0
   go_wp2_with fail
   go_loopw [6] (fun i wr=> ∃k:Nat,k<=xs.length/\i= iN qi (k:Int)/\dN (xs.take k)=false/\w1=wr) (fun i _=>xs.length-(intOf i).toNat)
   case atStart=>exact⟨0,Nat.zero_le _,rfl,rfl,rfl⟩
   case round=>
    obtain⟨k,hk,rfl,hfk,rfl⟩:=hrel;have Hfk:=lH hfk;clear hfk;by_cases hlt:k<xs.length
    ·have hx:xs[k]? =some xs[k]:=lG hlt;obtain⟨b,o,rfl,g00⟩:=HX.out k _ hx;have g0:=aoF HB1.out g00 (nR _);have Hbt:=lH (alP hx);clear hx g00;generalize xs[k]=x at *
     cases hno:btw x 0 20 with
     |false=>
      have HF:Hid (R=1):=lH (by rw[HR.out,alQ (k:=k+1) (by rw[Hbt.out,hno];simp),if_pos rfl])
      go_wp2_with (go_at_call 46;refine(gU _ _ _ _).mono ?_;rintro e w2 ⟨rfl,rfl⟩)
      go_ret;exact⟨by rw[HF.out]<;>rfl,HB1.out⟩
     |true=>
      have HF:Hid (dN (xs.take (k+1))=false):=lH (by rw[Hbt.out,Hfk.out,hno];rfl)
      go_wp2_with (go_at_call 46;refine(gU _ _ _ _).mono ?_;rintro e w2 ⟨rfl,rfl⟩)
      exact⟨⟨k+1,by omega,rfl,HF.out,trivial⟩,by simp[intOf];omega⟩
    ·have hke:xs.length<=k:=by omega
     have HF:Hid (R=0):=lH (by have h:=Hfk.out;rw[List.take_of_length_le hke] at h;rw[HR.out,h];rfl);go_wp2;go_ret;exact⟨by rw[HF.out]<;>rfl,HB1.out⟩
  ·have HR:Hid (aH B xs true=2):=lH (by unfold aH;rw[if_pos h0,if_neg h1]);generalize aH B xs true=R at *;clear h0;have hne: ¬(xs.length:Int)=(B.links.length:Int):=by omega
   go_enter Tryz.func55,Tryz.ntmps55
   go_wp2_with fail
   refine HC.out.mono ?_;rintro e w1 ⟨rfl,hb1⟩;have HB1:=lH (HB0.out.trans (hb1.mono (by simp)));have k2:w1.cell? ⟨w.heap.size,2,none⟩=some (sL la B.links.length lc):=by rw[(ak hb1).1 _ _ (by simp)];go_simp
   clear hb1 HC HB0;go_wp2;go_ret;exact⟨by rw[HR.out]<;>rfl,HB1.out⟩
 ·have HR:Hid (aH B xs true=B.alarm):=lH (by unfold aH;rw[if_neg h0]);generalize aH B xs true=R at *;generalize B.alarm=al at *;go_enter Tryz.func55,Tryz.ntmps55
  go_wp2_with fail
  refine HC.out.mono ?_;rintro e w1 ⟨rfl,hb1⟩;have HB1:=lH (HB0.out.trans (hb1.mono (by simp)));clear hb1 HC HB0;go_wp2;go_ret;exact⟨by rw[HR.out]<;>rfl,HB1.out⟩
theorem c94 (V:BkV) (B:Bk) (hB:B.Fine) (a b:Int) (w:wD) (hat:bT w V B):
  Calls tP 127 #[V.val B,iN qi a,iN qi b] w fun e w'=>e= rT (iN qi (B.direct a b))/\bX w.heap.size w w':=by
 obtain⟨ta,la,pa,tc,lc,pc⟩:=V;have hl:=hB.links;have ht:=hB.towns;unfold Bk.spokes at hl;have Hd0:Hid (B.direct a b=B.directFrom a b (B.links.length-(B.towns.length-1)) (B.towns.length-1)):=lH rfl;have h1:1<=B.towns.length:=by omega
 have h2:B.towns.length<=1000000:=by omega
 go_enter Tryz.func127,Tryz.ntmps127
 go_wp2_with (first | (go_at_call 62;refine(c73 _ _ _ _ _ _ _ _ _ _ _ h1 h2).mono ?_;rintro e w1 ⟨rfl,hb1⟩))
 have hx2:w1.cell? ⟨w.heap.size,2,none⟩=some (sL la B.links.length lc):=by rw[(ak hb1).1 _ _ (by simp)];go_simp
 have hbl:bX w.heap.size w w1:=((bR _ _).alloc (nR _) _).trans (hb1.mono (by simp));clear hb1;have HBL:=lH hbl
 go_loopw [7] (fun i wr=> ∃k:Nat,k<=B.links.length/\i= iN qi (k:Int)/\B.direct a b=B.directFrom a b (B.links.length-k) k/\w1=wr) (fun i _=>B.links.length-(intOf i).toNat)
 case atStart=>exact⟨B.towns.length-1,hl.1,rfl,Hd0.out,rfl⟩
 case round=>
  obtain⟨k,hk2,rfl,hdk,rfl⟩:=hrel;have Hdk:=lH hdk;clear hdk;by_cases hlt:k<B.links.length
  ·have hL:B.links[k]? =some B.links[k]:=lG hlt;obtain⟨lb,lo,sa,sc,g1,g2,g3,_,_⟩:=(hat.below hbl (nR _)).links _ _ hL;simp only at g1;subst g1;generalize hp:B.links[k].one=p at g2;generalize hr:B.links[k].two=r at g3;have HH:Hid (a=p->b=r->B.directFrom a b (B.links.length-k) k=k):=lH fun e1 e2=>OT hL hlt (e1.trans hp.symm) (e2.trans hr.symm);have HM:Hid (¬(a=p/\b=r)->B.directFrom a b (B.links.length-k) k=B.directFrom a b (B.links.length-(k+1)) (k+1)):=lH fun h=>OU hL hlt fun x=>h ⟨x.1.trans hp,x.2.trans hr⟩;clear hp hr hL;by_cases e1:p=a
   ·subst e1;by_cases e2:r=b
    ·subst e2;go_wp2;go_ret;exact⟨by rw[Hdk.out,HH.out (by simp) (by simp)];rfl,HBL.out⟩
    ·go_wp2;exact⟨⟨k+1,by omega,by go_num,by rw[Hdk.out];exact HM.out (fun x=>e2 x.2.symm),trivial⟩,by simp[intOf];omega⟩
   ·go_wp2;exact⟨⟨k+1,by omega,by go_num,by rw[Hdk.out];exact HM.out (fun x=>e1 x.1.symm),trivial⟩,by simp[intOf];omega⟩
  ·have hke:k=B.links.length:=by omega
   go_wp2;go_ret;refine⟨?_,HBL.out⟩;rw[Hdk.out,hke,Nat.sub_self];rfl
noncomputable def ahe:Code:=match Tryz.f28.body with
 |some (.seq _ (.seq c _))=>c
 |_=> .skip
def KnP (v0 xv:vL) (ta la pa:Option aD) (tc lc pc:Nat) (B:Bk) (i n:Int) (w W:wD) (h':Int) (ta' la' pa':Option aD) (tc' lc' pc' n1 n2 n3:Nat) (al:Int) (a:Act) (w':wD):Prop:=
 ∃b8,a=⟨#[v0,iN qi i,iN qi n,xv,pN (some ⟨w.heap.size,0,none⟩),ud,ud,pN (some ⟨w.heap.size+1,0,none⟩),pN (some ⟨w.heap.size+2,0,none⟩),iN qi 0,pN (some ⟨b8,0,none⟩),iN qi al,ud,.tuple #[.agg #[iN qi h',sL ta' n1 tc',sL la' n2 lc',sL pa' n3 pc'],iN qi al],.agg #[iN qi B.hours,sL ta B.towns.length tc,sL la B.links.length lc,sL pa B.pairs.length pc],.agg #[iN qi B.hours,sL ta B.towns.length tc,sL la B.links.length lc,sL pa B.pairs.length pc],iN qi i,.bool true,.bool true,.agg #[iN qi B.hours,sL ta B.towns.length tc,sL la B.links.length lc,sL pa B.pairs.length pc],iN qi n,.bool (bP B n),.bool (bP B n),.tuple #[.agg #[iN qi h',sL ta' n1 tc',sL la' n2 lc',sL pa' n3 pc'],iN qi al],.agg #[iN qi h',sL ta' n1 tc',sL la' n2 lc',sL pa' n3 pc'],iN qi al,ud,ud,ud,ud,ud,ud,ud,ud,ud,ud,ud,ud,ud,ud,ud,ud,ud,ud,ud,ud,ud,ud,ud,ud,ud,ud,ud,ud,ud,ud,ud,ud,ud,ud,ud,ud,ud,ud,ud,ud,ud,ud,ud,ud,ud,ud,ud,ud,ud,ud],[]⟩/\W.heap.size<=b8/\bX W.heap.size W w'/\dW w' b8 (iN qi h') (sL ta' n1 tc') (sL la' n2 lc') (sL pa' n3 pc')
theorem ahl (ta la pa:Option aD) (tc lc pc:Nat) (B:Bk) (i n:Int) (hi:btw i 0 ((B.pairs.length:Int)-1)=true) (w W:wD) (v0 xv:vL) (hs:aB w ⟨ta,la,pa,tc,lc,pc⟩ B) (hv:Vars w) (HBW:Hid (bX w.heap.size w W))
  (k0:W.cell? ⟨w.heap.size,0,none⟩=some (iN qi B.hours)) (k1:W.cell? ⟨w.heap.size,1,none⟩=some (sL ta B.towns.length tc)) (k2:W.cell? ⟨w.heap.size,2,none⟩=some (sL la B.links.length lc)) (k3:W.cell? ⟨w.heap.size,3,none⟩=some (sL pa B.pairs.length pc))
  (h':Int) (ta' la' pa':Option aD) (tc' lc' pc' n1 n2 n3:Nat) (al:Int) (hres:bU ⟨ta,la,pa,tc,lc,pc⟩ B (fF B (bP B n))= .tuple #[.agg #[iN qi h',sL ta' n1 tc',sL la' n2 lc',sL pa' n3 pc'],iN qi al]):
  ahe.wp tP (Exit.then (KnP v0 xv ta la pa tc lc pc B i n w W h' ta' la' pa' tc' lc' pc' n1 n2 n3 al) Gone) ⟨#[v0,iN qi i,iN qi n,xv,pN (some ⟨w.heap.size,0,none⟩),ud,ud,pN (some ⟨w.heap.size+1,0,none⟩),pN (some ⟨w.heap.size+2,0,none⟩),iN qi 0,ud,ud,ud,ud,ud,ud,ud,ud,ud,ud,ud,ud,ud,ud,ud,ud,ud,ud,ud,ud,ud,ud,ud,ud,ud,ud,ud,ud,ud,ud,ud,ud,ud,ud,ud,ud,ud,ud,ud,ud,ud,ud,ud,ud,ud,ud,ud,ud,ud,ud,ud,ud,ud,ud,ud,ud,ud,ud,ud,ud,ud,ud,ud,ud,ud,ud],[]⟩ W:=by
 have Hs:=lH hs;have Hv:=lH hv;have HC:Hid (∀u,bX W.heap.size W u->bX W.heap.size W u/\u.cell? ⟨w.heap.size,0,none⟩=some (iN qi B.hours)/\u.cell? ⟨w.heap.size,1,none⟩=some (sL ta B.towns.length tc)/\u.cell? ⟨w.heap.size,2,none⟩=some (sL la B.links.length lc)/\u.cell? ⟨w.heap.size,3,none⟩=some (sL pa B.pairs.length pc)):=lH fun u h=>
  ⟨h,aoF h k0 (nR _),aoF h k1 (nR _),aoF h k2 (nR _),aoF h k3 (nR _)⟩
 have H0:Hid (∀u,bX W.heap.size W u->Calls tP 40 #[.agg #[iN qi B.hours,sL ta B.towns.length tc,sL la B.links.length lc,sL pa B.pairs.length pc],iN qi i] u fun e u'=>e= rT (.bool true)/\jR W u u'):=lH fun u hu=>(c83 ⟨ta,la,pa,tc,lc,pc⟩ B i u Hs.out.np).mono fun _ _ h=>⟨by rw[h.1,hi],keepR hu h.2⟩;have HA:Hid (∀u,bX W.heap.size W u->Calls tP 41 #[.agg #[iN qi B.hours,sL ta B.towns.length tc,sL la B.links.length lc,sL pa B.pairs.length pc],iN qi n] u fun e u'=>e= rT (.bool (bP B n))/\jR W u u'):=lH fun u hu=>(Np B.hours _ _ _ n u).mono fun _ _ h=>⟨h.1,keepR hu h.2⟩;have HB:Hid (∀u,bX W.heap.size W u->Calls tP 39 #[.agg #[iN qi B.hours,sL ta B.towns.length tc,sL la B.links.length lc,sL pa B.pairs.length pc],.bool (bP B n)] u fun e u'=>e= rT (.tuple #[.agg #[iN qi h',sL ta' n1 tc',sL la' n2 lc',sL pa' n3 pc'],iN qi al])/\jR W u u'):=lH fun u hu=>by
  have hwu:=HBW.out.trans (hu.mono HBW.out.size);refine(c78 ⟨ta,la,pa,tc,lc,pc⟩ B (bP B n) u (Hs.out.below hwu (nR _)) (Hv.out.v2.below hwu (nR _))).mono ?_;rintro e u' ⟨rfl,hb⟩;exact⟨by rw[hres],keepR hu hb⟩
 clear hres hs hv hi;have HD:Hid (bX W.heap.size W W.drew):=lH (bR _ _).drew;have HDA:Hid (∀o,bX W.heap.size W ((W.alloc o).drew)):=lH fun o=>(bM (bR _ _)).drew;simp only[ahe,Tryz.f28]
 go_region_held3 (fun w'=>bX W.heap.size W w'/\w'.cell? ⟨w.heap.size,0,none⟩=some (iN qi B.hours)/\w'.cell? ⟨w.heap.size,1,none⟩=some (sL ta B.towns.length tc)/\w'.cell? ⟨w.heap.size,2,none⟩=some (sL la B.links.length lc)/\w'.cell? ⟨w.heap.size,3,none⟩=some (sL pa B.pairs.length pc))
  ((refine HC.out _ ?_;go_split_ands;repeat (first |with_reducible assumption |with_reducible exact bR _ _ |with_reducible refine bM ?_ |with_reducible refine Below.drew ?_ |with_reducible refine Below.setCell ?_ ?_ _ | (focus (simp;done)) | (focus (simp;omega)) | (focus omega))))
  (first
   | (go_simp;go_at_call 40;go_split_ands;(with_reducible refine(H0.out _ ?_).mono ?_);(with_reducible assumption);rintro e w0 ⟨rfl,hk0⟩;have hzz:=hk0.1.out.size;have hbz':=hk0.1.out;(try (refine mP (mQ (b:=W.heap.size) hk0 ?_) ?_;(focus (first |with_reducible assumption |with_reducible exact kY _ |with_reducible exact mV _));intro hz4)))
   | (go_simp;go_at_call 41;go_split_ands;(with_reducible refine(HA.out _ ?_).mono ?_);(with_reducible assumption);rintro e w1 ⟨rfl,hk1⟩;have hzw:=hk1.1.out.size;have hbw':=hk1.1.out;(try (refine mP (mQ (b:=W.heap.size) hk1 ?_) ?_;(focus (first |with_reducible assumption |with_reducible exact kY _ |with_reducible exact mV _));intro hz4));(try (refine mP (mQ (b:=w0.heap.size) hk1 ?_) ?_;(focus (first |with_reducible assumption |with_reducible exact kY _ |with_reducible exact mV _));intro hz4)))
   | (go_simp;go_at_call 39;go_split_ands;(with_reducible refine(HB.out _ ?_).mono ?_);(with_reducible assumption);rintro e w2 ⟨rfl,hk2⟩;have hzv:=hk2.1.out.size;have hbv':=hk2.1.out;(try (refine mP (mQ (b:=W.heap.size) hk2 ?_) ?_;(focus (first |with_reducible assumption |with_reducible exact kY _ |with_reducible exact mV _));intro hz4));(try (refine mP (mQ (b:=w0.heap.size) hk2 ?_) ?_;(focus (first |with_reducible assumption |with_reducible exact kY _ |with_reducible exact mV _));intro hz4));(try (refine mP (mQ (b:=w1.heap.size) hk2 ?_) ?_;(focus (first |with_reducible assumption |with_reducible exact kY _ |with_reducible exact mV _));intro hz4));(try (obtain⟨⟨r0,r1,r2,r3⟩,g0,g1,g2,g3⟩:=hz4))))
 all_goals
  go_split_ands;refine⟨_,rfl, ?_, ?_,EP ?_ ?_ ?_ ?_ ?_ ?_ ?_ ?_⟩
  ·first
    |exact nR _
    |with_reducible assumption
  ·with_reducible assumption
  all_goals first
   | (go_simp;done)
   | (go_simp;refine World.cell?_setCell_same' _ _ _ ?_;go_simp;done)
end Go.Proofs.YtaikibfkggglgaaGreatDoor
