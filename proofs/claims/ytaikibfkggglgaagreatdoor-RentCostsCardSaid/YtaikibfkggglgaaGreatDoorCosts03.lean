/- A part of the proof of a law; no conditions of its own. -/
import Derived.Test.YtaikibfkggglgaaGreatDoorCosts02
set_option maxRecDepth 100000
open Nat renaming le_refl→nR
open Go.Lib renaming hid→lH
open Go.RowKit.Below renaming refl→bR
open Go.Proofs.Tryz renaming prog→tP
open List renaming getElem?_eq_getElem→lG
open List renaming getD_eq_getElem?_getD→lD
set_option maxHeartbeats 4000000
namespace Go.Proofs.YtaikibfkggglgaaGreatDoor
open Go.RowKit Go.Rent Go.Tp Go.Conc
theorem ad2 (a b:Int) (x y:List Int):cmpL (a::x) (b::y)<0↔a<b\/a=b/\cmpL x y<0:=by
 simp only[cmpL,mF];by_cases h1:a<b
 ·simp[h1]
 ·by_cases h2:b<a
  ·have:a≠b:=by omega
   simp[h1,h2,this]
  ·have:a=b:=by omega
   simp[this]
theorem adM: ∀(x y z:List Int),cmpL x y<0->cmpL y z<0->cmpL x z<0
 |_,[],[],_,h=>by simp[cmpL] at h
 |_,_::_,[],_,h=>by simp[cmpL] at h
 | [],[],_::_,h,_=>by simp[cmpL] at h
 |_::_,[],_::_,h,_=>by simp[cmpL] at h
 | [],_::_,_::_,_,_=>by simp[cmpL]
 |a::x,b::y,c::z,h1,h2=>by
  rw[ad2] at *
  rcases h1 with h1 |⟨h1,k1⟩
  ·rcases h2 with h2 |⟨h2,k2⟩
   ·exact .inl (by omega)
   ·exact .inl (by omega)
  ·rcases h2 with h2 |⟨h2,k2⟩
   ·exact .inl (by omega)
   ·exact .inr ⟨by omega,adM x y z k1 k2⟩
theorem adN: ∀l:List Int,cmpL l l=0
 | []=>rfl
 |a::l=>by simp[cmpL,mF,adN l]
theorem ady {x y z:List Int×Int} (h1:qR x y<0) (h2:qR y z<0):qR x z<0:=by
 unfold qR at *;have:=adM x.1 y.1 z.1
 split at h1<;>split at h2<;>split
 all_goals first |exact this h1 h2 |omega
theorem adB (x:List Int×Int): ¬qR x x<0:=by
 unfold qR;rw[if_pos rfl,adN];omega
theorem adH: ∀(l:List (List Int×Int)) (c b:List Int×Int),l.foldl least1 (some c)=some b->(b=c\/(qR b c<0/\b∈l))/\ ∀x∈l,¬qR x b<0
 | [],c,b,h=>⟨.inl (by simpa using h.symm),fun x hx=>(by cases hx)⟩
 |y::l,c,b,h=>by
  rw[List.foldl_cons] at h;unfold least1 at h;dsimp only at h;by_cases hc:qR y c<0
  ·rw[if_pos hc] at h;obtain⟨h1,h2⟩:=adH l y b h
   rcases h1 with e |⟨e,hm⟩
   ·subst e;refine⟨.inr ⟨hc,List.mem_cons_self ..⟩,fun x hx=> ?_⟩
    rcases List.mem_cons.1 hx with e |e
    ·subst e;exact adB _
    ·exact h2 x e
   ·refine⟨.inr ⟨ady e hc,List.mem_cons_of_mem _ hm⟩,fun x hx=> ?_⟩
    rcases List.mem_cons.1 hx with e2 |e2
    ·subst e2;exact fun h=>adB _ (ady h e)
    ·exact h2 x e2
  ·rw[if_neg hc] at h;obtain⟨h1,h2⟩:=adH l c b h;refine⟨h1.imp id fun⟨a,b⟩=>⟨a,List.mem_cons_of_mem _ b⟩,fun x hx=> ?_⟩
   rcases List.mem_cons.1 hx with e2 |e2
   ·subst e2
    rcases h1 with e |⟨e,_⟩
    ·subst e;exact hc
    ·exact fun h=>hc (ady h e)
   ·exact h2 x e2
theorem ad3: ∀{l:List (List Int×Int)} {b:List Int×Int},iC l=some b->b∈l/\ ∀x∈l,¬qR x b<0
 | [],b,h=>by cases h
 |y::l,b,h=>by
  obtain⟨h1,h2⟩:=adH l y b h
  rcases h1 with e |⟨e,hm⟩
  ·subst e;refine⟨List.mem_cons_self .., fun x hx=> ?_⟩
   rcases List.mem_cons.1 hx with e |e
   ·subst e;exact adB _
   ·exact h2 x e
  ·refine⟨List.mem_cons_of_mem _ hm,fun x hx=> ?_⟩
   rcases List.mem_cons.1 hx with e2 |e2
   ·subst e2;exact fun h=>adB _ (ady h e)
   ·exact h2 x e2
theorem adC (may:Int->Bool): ∀(m:Nat) (t x:List Int),x∈moreL may m t↔ ∃d:List Int,x=t++d/\d.length=m/\ ∀(i:Nat) (y:Int),d[i]? =some y->0<=y/\y<=iY may (t.length+i)
 | 0,t,x=>by
  unfold moreL;rw[List.mem_singleton];refine⟨fun h=>⟨[],by simpa using h,rfl,fun i y h=>by simp at h⟩,fun⟨d,h1,h2,_⟩=> ?_⟩;rw[h1,List.length_eq_zero_iff.1 h2,List.append_nil]
 |m+1,t,x=>by
  unfold moreL;rw[List.mem_flatMap];constructor
  ·rintro⟨n,hn,hx⟩;obtain⟨d,h1,h2,h3⟩:=(adC may m _ x).1 hx;refine⟨(n:Int)::d,by rw[h1];simp,by simp[h2],fun i y hy=> ?_⟩
   cases i with
   |zero=>
    have:=List.mem_range.1 hn;simp at hy;simp only[Nat.add_zero];omega
   |succ i=>
    have:=h3 i y (by simpa using hy);rwa [List.length_append,List.length_singleton,Nat.add_assoc,Nat.add_comm 1 i] at this
  ·rintro⟨d,h1,h2,h3⟩
   cases d with
   |nil=>cases h2
   |cons a d=>
    have h0:=h3 0 a rfl;rw[Nat.add_zero] at h0;refine⟨a.toNat,List.mem_range.2 (by omega),(adC may m _ x).2 ⟨d, ?_,by simpa using h2,fun i y hy=> ?_⟩⟩
    ·rw[h1,Int.toNat_of_nonneg h0.1];simp
    ·have:=h3 (i+1) y (by simpa using hy);rwa [List.length_append,List.length_singleton,Nat.add_assoc,Nat.add_comm 1 i]
theorem adO (B:Bk) (may:Int->Bool):aC B may∈oP B may/\ ∀x∈oP B may,¬qR x (aC B may)<0:=by
 have hne:oP B may≠ []:=by
  unfold oP;intro h;exact MP may _ _ (List.map_eq_nil_iff.1 h)
 obtain⟨b,hb⟩:=ZH _ hne;have:aC B may=b:=by unfold aC;rw[hb];rfl
 rw[this];exact ad3 hb
def Dir (B:Bk) (may:Int->Bool) (t:List Int):Prop:=t∈moreL may (B.links.length-B.spokes) (List.replicate B.spokes 0)
theorem ad4 {B:Bk} (hl:B.spokes<=B.links.length) {may:Int->Bool} {t:List Int} (h:Dir B may t):t.length=B.links.length/\(∀x∈t,0<=x/\x<=5)/\(∀k,k<B.spokes->trk t k=0)/\ ∀k,B.spokes<=k->trk t k<=iY may k:=by
 obtain⟨d,h1,h2,h3⟩:=(adC may _ _ t).1 h;have htop: ∀k,iY may k<=5:=fun k=>by unfold iY;split<;>omega
 refine⟨by rw[h1,List.length_append,List.length_replicate,h2];omega,fun x hx=> ?_,fun k hk=> ?_,fun k hk=> ?_⟩
 ·rw[h1] at hx
  rcases List.mem_append.1 hx with e |e
  ·rw[(List.mem_replicate.1 e).2];omega
  ·obtain⟨i,hi,rfl⟩:=List.getElem_of_mem e;have:=h3 i _ (lG hi);have:=htop ((List.replicate B.spokes (0 :Int)).length+i);omega
 ·unfold trk;rw[h1,lD,List.getElem?_append_left (by simpa using hk),List.getElem?_replicate,if_pos hk];rfl
 ·unfold trk;rw[h1,lD,List.getElem?_append_right (by simpa using hk),List.length_replicate]
  cases e:d[k-B.spokes]? with
  |none=>simp
  |some y=>
   have:=h3 _ y e;rw[List.length_replicate,show B.spokes+(k-B.spokes)=k by omega] at this;exact this.2
theorem adP {B:Bk} {may:Int->Bool} {x:List Int×Int}:x∈oP B may↔ ∃t,Dir B may t/\iy B t=x:=List.mem_map
theorem adD {B:Bk} {t:List Int} (k:Nat):trk (jC B t) k=if k<B.spokes then aZ B (trk t) k else trk t k:=by
 unfold jC trk;rw[lD];by_cases h:k<B.spokes
 ·rw[if_pos h,List.getElem?_append_left (by rw[EM];exact h)];unfold ku;rw[List.getElem?_map,List.getElem?_range h];rfl
 ·rw[if_neg h,List.getElem?_append_right (by rw[EM];omega),EM,List.getElem?_drop,lD,show B.spokes+(k-B.spokes)=k by omega]
def adt (B:Bk) (xs:List Int):Int:=fZ B (trk xs) B.links.length
theorem adJ {B:Bk} (hl:B.spokes<=B.links.length) {t:List Int} (ht:t.length=B.links.length):(iy B t).2=adt B (jC B t):=by
 unfold iy adt;dsimp only;rw[MS ht hl]
theorem aea {B:Bk} (hG:Good B) (may:Int->Bool): ∃t,Dir B may t/\t.length=B.links.length/\(∀x∈t,0<=x/\x<=5)/\(aC B may).1=jC B t/\(aC B may).2=adt B (jC B t):=by
 obtain⟨t,hd,he⟩:=adP.1 (adO B may).1;obtain⟨h1,h2,_⟩:=ad4 hG.fine.links.1 hd;exact⟨t,hd,h1,h2,by rw[<-he];rfl,by rw[<-he];exact adJ hG.fine.links.1 h1⟩
theorem adX: ∀(x y:List Int),iq x y=true↔cmpL x y<0
 | [],[]=>by simp[iq,cmpL]
 | [],_::_=>by simp[iq,cmpL]
 |_::_,[]=>by simp[iq,cmpL]
 |a::x,b::y=>by
  have ih:=adX x y;simp only[iq,cmpL,mF];by_cases h1:a<b
  ·have:a≠b:=by omega
   simp[h1,this]
  ·by_cases h2:b<a
   ·have:a≠b:=by omega
    simp[h1,h2,this]
   ·have:a=b:=by omega
    subst this;simpa using ih
def amF (B:Bk) (t:List Int):List Int×Int:=iy B (amD B t)
theorem anu {l:List (List Int×Int)} {i:Nat} {x b:List Int×Int} (hx:l[i]? =some x) (hb:iC (l.take i)=some b):iC (l.take (i+1))=some (if qR x b<0 then x else b):=by
 rw[List.take_add_one,hx]
 show iC (l.take i++ [x])=_
 rw[MO,hb]
 show (if qR x b<0 then some x else some b)=_
 split<;>rfl
theorem amQ {x b:List Int×Int}:qR x b<0↔x.2<b.2\/(x.2=b.2/\iq x.1 b.1=true):=by
 unfold qR;rw[adX]
 split<;>omega
structure Held (B:Bk) (x:List Int×Int):Prop where
 len:x.1.length=B.links.length
 bd: ∀k,0<=trk x.1 k/\trk x.1 k<=30
 cost:x.2=fZ B (trk x.1) x.1.length
theorem anv {B:Bk} (hB:B.Fine) {t:List Int} (hl:t.length=B.links.length-B.spokes) (h5: ∀i,0<=trk t i/\trk t i<=5):Held B (amF B t):=by
 have hll:=hB.links;have hwl:(amD B t).length=B.links.length:=by unfold amD;simp;omega
 refine⟨MS hwl hll.1,fun k=> ?_,rfl⟩
 show 0<=trk (jC B (amD B t)) k/\_
 unfold amF iy;dsimp only;rw[adD]
 split
 ·exact ZJ hB (fun k=>(amZ h5 k).1) k
 ·have:=amZ h5 (B:=B) k;omega
theorem ane {ms:List Int} (hms: ∀i,0<=trk ms i/\trk ms i<=5): ∀(m:Nat) (t x:List Int),(∀i,0<=trk t i/\trk t i<=5)->x∈dirs ms m t-> ∀i,0<=trk x i/\trk x i<=5
 | 0,t,x,ht,h=>by
  unfold dirs at h;rw[List.mem_singleton] at h;rw[h];exact ht
 |m+1,t,x,ht,h=>by
  unfold dirs at h;rw[List.mem_flatMap] at h;obtain⟨n,hn,hx⟩:=h;refine ane hms m _ x (fun i=> ?_) hx;have hn5:=List.mem_range.1 hn;have hm5:=hms t.length;unfold trk;rw[lD];by_cases e:i<t.length
  ·rw[List.getElem?_append_left e];have:=ht i;unfold trk at this;rw[lD] at this;exact this
  ·rw[List.getElem?_append_right (by omega)]
   cases hi:i-t.length with
   |zero=>simp;omega
   |succ j=>simp
theorem r58 (V:BkV) (B:Bk) (hG:Good B) (may:Int->Bool) (ms:List Int) (hml:ms.length=B.links.length-B.spokes) (htop: ∀i,i<ms.length->trk ms i=(iY may (B.spokes+i):Nat)) (ma:Option Addr) (mc:Nat) (w:World) (hs:aB w V B) (hm:SlI w ma ms):
  Calls tP 58 #[V.val B,.slice ma ms.length mc] w fun e w'=> ∃a c,e= .returned (.tuple #[.slice a B.links.length c,.int .i64 (aC B may).2])/\SlI w' a (aC B may).1/\(aC B may).1.length=B.links.length/\Below w.heap.size w w':=by
 have hll:=hG.fine.links;have hms: ∀i,0<=trk ms i/\trk ms i<=5:=fun i=>by
  by_cases hi:i<ms.length
  ·rw[htop i hi];unfold iY;split<;>omega
  ·unfold trk;rw[lD,List.getElem?_eq_none (by omega)];simp
 have hoff:=anj hml htop;have hb0:Below w.heap.size w (w.alloc (.cells #[.int .i64 B.hours,.slice V.ta B.towns.length V.tc,.slice V.la B.links.length V.lc,.slice V.pa B.pairs.length V.pc] 26)):=(bR _ _).alloc (nR _) _;have HC93:=lH (r93 ms hms (by omega) ma mc ms.length [] none 0 _ (by simp) (hm.below hb0 (nR _)) (.inl ⟨rfl,rfl,rfl⟩));have hone:=amY (ms:=ms) ms.length [];have hcnt:(dirs ms ms.length []).length<=46656:=Nat.le_trans (amP hms _ _) (Nat.pow_le_pow_right (by omega) (show ms.length<=6 by omega));have hAl: ∀t∈dirs ms ms.length [],t.length=B.links.length-B.spokes/\ ∀i,0<=trk t i/\trk t i<=5:=fun t ht=>⟨by rw[am7 _ _ _ ht,<-hml];simp,ane hms _ _ _ (fun i=>by simp[trk]) ht⟩;have hbest:iC ((dirs ms ms.length []).map (amF B))=some (aC B may):=by
  have h1:oP B may=(dirs ms ms.length []).map (amF B):=hoff;obtain⟨b,hb⟩:=ZH (oP B may) (by rw[h1];intro h;rw[List.map_eq_nil_iff] at h;rw[h] at hone;simp at hone);unfold aC;rw[<-h1,hb];rfl
 generalize dirs ms ms.length []=A at *;have HHeld:Hid (∀(j:Nat) (t:List Int),A[j]? =some t->Held B (amF B t)):=lH fun j t hj=>by
  obtain⟨h1,h2⟩:=hAl t (List.mem_of_getElem? hj);exact anv hG.fine h1 h2
 have H94:Hid (∀(j:Nat) (t:List Int) ra rc (u:World),A[j]? =some t->Below w.heap.size w u->Rw u ra rc t->Calls tP 94 #[V.val B,.slice ra t.length rc] u fun e u'=> ∃a c,e= .returned (.slice a B.links.length c)/\SlI u' a (amF B t).1/\Below u.heap.size u u'):=lH fun j t ra rc u hj hu hr=>by
  obtain⟨h1,h2⟩:=hAl t (List.mem_of_getElem? hj);refine(r94 V B hG t h1 h2 ra rc u (hs.below hu (nR _)) hr).mono ?_;rintro e u' ⟨v,rfl,ho,hb⟩;obtain⟨a,c,e1,hsl⟩:=aeU (xs:=(amF B t).1) (HHeld.out j t hj).len ho;subst e1;exact⟨a,c,rfl,hsl,hb⟩
 have H56:Hid (∀(x:List Int×Int) a c (u:World),Held B x->Below w.heap.size w u->SlI u a x.1->Calls tP 56 #[V.val B,.slice a B.links.length c] u fun e u'=>e= .returned (.int .i64 x.2)/\Below u.heap.size u u'):=lH fun x a c u hx hu hsl=>by
  have:=r56 V B hG x.1 a c u (hs.below hu (nR _)) hsl hx.len hx.bd;rw[hx.len] at this;refine this.mono ?_;rintro e u' ⟨rfl,hb⟩;exact⟨by rw[hx.cost,hx.len],hb⟩
 have HBest:=lH hbest;have HTk:Hid (∀(i:Nat) (t:List Int) (b:List Int×Int),A[i]? =some t->iC ((A.map (amF B)).take i)=some b->iC ((A.map (amF B)).take (i+1))=some (if qR (amF B t) b<0 then amF B t else b)):=lH fun i t b hi hb=>anu (by rw[List.getElem?_map,hi];rfl) hb;have HT1:Hid (∀t,A[0]? =some t->iC ((A.map (amF B)).take 1)=some (amF B t)):=lH fun t ht=>by
  cases A with
  |nil=>cases ht
  |cons a l=>simp at ht;subst ht;rfl
 have HTn:Hid ((A.map (amF B)).take A.length=A.map (amF B)):=lH (List.take_of_length_le (by simp));generalize aC B may=R at *;generalize amF B=O at *;have hl6:B.links.length<=6:=hll.2;have hlm:ms.length<=6:=by omega
 have HB0:=lH hb0;obtain⟨ta,la,pa,tc,lc,pc⟩:=V;simp only[BkV.val] at *;clear hG hs hm hll hms hoff hAl hbest hml htop hb0;go_enter Tryz.func58,Tryz.ntmps58
 go_wp2_with fail
 refine HC93.out.mono ?_;rintro e W ⟨v3,rfl,hll3,hb3⟩;obtain⟨us,hul,huo,hue⟩:=hll3.len;obtain⟨g,gc,rfl,_,_,hcell,_,hgc,hgm⟩:=ru huo hone;have HBW:=lH (HB0.out.trans (hb3.mono (by simp)));have HW:=lH (amL (V:=⟨ta,la,pa,tc,lc,pc⟩) (by simpa using hb3));have HAt:Hid (∀(i:Nat) (t:List Int),A[i]? =some t-> ∃a c,(∀u,Below W.heap.size W u->u.cell? ⟨g,i,none⟩=some (.slice a t.length c)/\Rw u a c t)):=lH fun i t hi=>by
  obtain⟨a,c,h1,h2⟩:=hue i t hi;exact⟨a,c,fun u hu=>⟨cell_below hu (hcell i _ h1) (nR _),h2.keep (Kp.below hu)⟩⟩
 clear HC93 HB0 hll3 huo hue hcell hb3 hul;have hW0:Below W.heap.size W W.drew:=(bR _ _).drew;have HCx: ∀u,Below W.heap.size W u->u.cell? ⟨w.heap.size,0,none⟩=some (.int .i64 B.hours)/\u.cell? ⟨w.heap.size,1,none⟩=some (.slice ta B.towns.length tc)/\u.cell? ⟨w.heap.size,2,none⟩=some (.slice la B.links.length lc)/\u.cell? ⟨w.heap.size,3,none⟩=some (.slice pa B.pairs.length pc):=fun u hu=>⟨cell_below hu HW.out.1 (nR _),cell_below hu HW.out.2.1 (nR _),cell_below hu HW.out.2.2.1 (nR _),cell_below hu HW.out.2.2.2 (nR _)⟩;have HCX:=lH HCx;obtain⟨t0,ht0⟩: ∃t,A[0]? =some t:=⟨_,lG (by omega)⟩;obtain⟨a0,c0,hat0⟩:=HAt.out 0 t0 ht0;have HT0:=lH ht0;have hone2:(0 :Int)<(A.length:Int):=by omega
 have hane: ¬A= []:=by intro h;rw[h] at hone;simp at hone
 clear ht0;have HC: ∀u,Below W.heap.size W u->(u.cell? ⟨w.heap.size,0,none⟩=some (.int .i64 B.hours)/\u.cell? ⟨w.heap.size,1,none⟩=some (.slice ta B.towns.length tc)/\u.cell? ⟨w.heap.size,2,none⟩=some (.slice la B.links.length lc)/\u.cell? ⟨w.heap.size,3,none⟩=some (.slice pa B.pairs.length pc))/\u.cell? ⟨g,0,none⟩=some (.slice a0 t0.length c0):=fun u hu=>⟨HCX.out u hu,(hat0 u hu).1⟩
 go_wp2_with fail
 refine aif 6 6 (fun u=>Below W.heap.size W u) (by kernel_rfl) ?_;refine ahN 0 (.agg #[.int .i64 B.hours,.slice ta B.towns.length tc,.slice la B.links.length lc,.slice pa B.pairs.length pc]) hW0 ?_ (hr:=fun u hu=>by obtain⟨⟨c0x,c1x,c2x,c3x⟩,c4x⟩:=HC u hu;go_simp);refine ahN 1 (.slice (some ⟨g,0,none⟩) A.length gc) hW0 ?_ (hr:=fun u hu=>by go_simp);refine ahN 2 (.pointer (some ⟨g,0,none⟩)) hW0 ?_ (hr:=fun u hu=>by go_simp);refine ahN 3 (.slice a0 t0.length c0) hW0 ?_ (hr:=fun u hu=>by obtain⟨⟨c0x,c1x,c2x,c3x⟩,c4x⟩:=HC u hu;go_simp);refine ahQ 4 (h:= ?_);refine ahW (f:=94) (args:= #[.agg #[.int .i64 B.hours,.slice ta B.towns.length tc,.slice la B.links.length lc,.slice pa B.pairs.length pc],.slice a0 t0.length c0]) (w':=W.drew) (by go_simp) ((H94.out 0 t0 a0 c0 W.drew HT0.out (HBW.out.trans (hW0.mono HBW.out.size)) (hat0 _ hW0).2).mono ?_);rintro e u1 ⟨a1,c1,rfl,hsl1,hb1⟩;have hs1:=hW0.trans (hb1.mono hW0.size);refine⟨_,rfl,fun _=>hs1, ?_⟩;refine ahN 5 (.slice a1 B.links.length c1) hs1 ?_ (hr:=fun u hu=>by go_simp);refine ahZ ?_;go_simp;have HSl:=lH hsl1;have HB1:=lH hs1;clear hsl1 hs1 hb1 HC HCx hW0
 go_wp2_with fail
 go_loopw [7,8] (fun v i wr=> ∃(i0:Nat) (b:List Int×Int) (a:Option Addr) (c:Nat),1<=i0/\i0<=A.length/\i= .int .i64 (i0:Int)/\v= .slice a B.links.length c/\iC ((A.map O).take i0)=some b/\Held B b/\SlI wr a b.1/\Below W.heap.size W wr) (fun _ i _=>A.length-(intOf i).toNat)
 case atStart=>exact⟨1,O t0,a1,c1,nR _,hone,rfl,rfl,HT1.out _ HT0.out,HHeld.out 0 _ HT0.out,HSl.out,HB1.out⟩
 case round=>
  obtain⟨i,b,a,c,hi1,hiA,rfl,rfl,hleast,hheld,hsl,hb⟩:=hrel;have HLe:=lH hleast;have HHd:=lH hheld;have HSb:=lH hsl;have Hb:=lH hb;clear hleast hheld hsl hb;by_cases hlt:i<A.length
  ·have hlt2:(i:Int)<(A.length:Int):=by omega
   obtain⟨t,ht⟩: ∃t,A[i]? =some t:=⟨_,lG hlt⟩;obtain⟨at_,ac,hat⟩:=HAt.out i t ht;have Ht:=lH ht;clear ht;have hW:Below W.heap.size W wr.drew:=Hb.out.drew;have HC: ∀u,Below W.heap.size W u->(u.cell? ⟨w.heap.size,0,none⟩=some (.int .i64 B.hours)/\u.cell? ⟨w.heap.size,1,none⟩=some (.slice ta B.towns.length tc)/\u.cell? ⟨w.heap.size,2,none⟩=some (.slice la B.links.length lc)/\u.cell? ⟨w.heap.size,3,none⟩=some (.slice pa B.pairs.length pc))/\u.cell? ⟨g,i,none⟩=some (.slice at_ t.length ac):=fun u hu=>⟨HCX.out u hu,(hat u hu).1⟩
   go_wp2_with fail
   refine aif 7 7 (fun u=>Below W.heap.size W u) (by kernel_rfl) ?_;refine ahN 0 (.agg #[.int .i64 B.hours,.slice ta B.towns.length tc,.slice la B.links.length lc,.slice pa B.pairs.length pc]) hW ?_ (hr:=fun u hu=>by obtain⟨⟨c0x,c1x,c2x,c3x⟩,c4x⟩:=HC u hu;go_simp);refine ahN 1 (.slice (some ⟨g,0,none⟩) A.length gc) hW ?_ (hr:=fun u hu=>by go_simp);refine ahN 2 (.int .i64 (i:Int)) hW ?_ (hr:=fun u hu=>by go_simp);refine ahN 3 (.pointer (some ⟨g,i,none⟩)) hW ?_ (hr:=fun u hu=>by go_simp);refine ahN 4 (.slice at_ t.length ac) hW ?_ (hr:=fun u hu=>by obtain⟨⟨c0x,c1x,c2x,c3x⟩,c4x⟩:=HC u hu;go_simp);refine ahQ 5 (h:= ?_);refine ahW (f:=94) (args:= #[.agg #[.int .i64 B.hours,.slice ta B.towns.length tc,.slice la B.links.length lc,.slice pa B.pairs.length pc],.slice at_ t.length ac]) (w':=wr.drew) (by go_simp) ((H94.out i t at_ ac wr.drew Ht.out (HBW.out.trans (hW.mono HBW.out.size)) (hat _ hW).2).mono ?_);rintro e u1 ⟨a1,c1,rfl,hsl1,hb1⟩;have hs1:=hW.trans (hb1.mono hW.size);refine⟨_,rfl,fun _=>hs1, ?_⟩;refine ahN 6 (.slice a1 B.links.length c1) hs1 ?_ (hr:=fun u hu=>by go_simp);refine ahZ ?_;go_simp;have HX:=lH (HHeld.out i t Ht.out);have HK:=lH (HTk.out i t b Ht.out HLe.out);have QSx:=lH hsl1;have QSb1:=lH (HSb.out.below (((bR wr.heap.size wr).drew).trans hb1) (nR _));have HB1x:=lH hs1;clear hsl1 hb1 HC hs1 hW;generalize O t=x at *;obtain⟨W1,hW1⟩: ∃q,q=u1:=⟨_,rfl⟩;subst hW1;have hW:Below W1.heap.size W1 W1.drew:=(bR _ _).drew;have HC: ∀u,Below W1.heap.size W1 u->u.cell? ⟨w.heap.size,0,none⟩=some (.int .i64 B.hours)/\u.cell? ⟨w.heap.size,1,none⟩=some (.slice ta B.towns.length tc)/\u.cell? ⟨w.heap.size,2,none⟩=some (.slice la B.links.length lc)/\u.cell? ⟨w.heap.size,3,none⟩=some (.slice pa B.pairs.length pc):=fun u hu=>HCX.out u (HB1x.out.trans (hu.mono HB1x.out.size))
   go_wp2_with fail
   refine aif 8 8 (fun u=>Below W1.heap.size W1 u) (by kernel_rfl) ?_;refine ahN 0 (.agg #[.int .i64 B.hours,.slice ta B.towns.length tc,.slice la B.links.length lc,.slice pa B.pairs.length pc]) hW ?_ (hr:=fun u hu=>by obtain⟨c0x,c1x,c2x,c3x⟩:=HC u hu;go_simp);refine ahN 1 (.slice a1 B.links.length c1) hW ?_ (hr:=fun u hu=>by go_simp);refine ahN 3 (.agg #[.int .i64 B.hours,.slice ta B.towns.length tc,.slice la B.links.length lc,.slice pa B.pairs.length pc]) hW ?_ (hr:=fun u hu=>by obtain⟨c0x,c1x,c2x,c3x⟩:=HC u hu;go_simp);refine ahN 4 (.slice a B.links.length c) hW ?_ (hr:=fun u hu=>by go_simp);refine ahQ 2 (h:= ?_);refine ahW (f:=56) (args:= #[.agg #[.int .i64 B.hours,.slice ta B.towns.length tc,.slice la B.links.length lc,.slice pa B.pairs.length pc],.slice a1 B.links.length c1]) (w':=W1.drew) (by go_simp) ((H56.out x a1 c1 W1.drew HX.out (HBW.out.trans ((HB1x.out.trans (hW.mono HB1x.out.size)).mono HBW.out.size)) (QSx.out.below hW (nR _))).mono ?_);rintro e u1 ⟨rfl,hb1⟩;have hs1:=hW.trans (hb1.mono hW.size);refine⟨_,rfl,fun _=>hs1, ?_⟩;refine ahQ 5 (h:= ?_);refine ahW (f:=56) (args:= #[.agg #[.int .i64 B.hours,.slice ta B.towns.length tc,.slice la B.links.length lc,.slice pa B.pairs.length pc],.slice a B.links.length c]) (w':=u1) (by go_simp) ((H56.out b a c u1 HHd.out (HBW.out.trans ((HB1x.out.trans (hs1.mono HB1x.out.size)).mono HBW.out.size)) (QSb1.out.below hs1 (nR _))).mono ?_);rintro e u2 ⟨rfl,hb2⟩;have hs2:=hs1.trans (hb2.mono hs1.size);refine⟨_,rfl,fun _=>hs2, ?_⟩;refine ahN 6 (.int .i64 x.2) hs2 ?_ (hr:=fun u hu=>by go_simp);refine ahN 7 (.int .i64 b.2) hs2 ?_ (hr:=fun u hu=>by go_simp);refine ahZ ?_;go_simp;have HS2:=lH hs2;have QSx2:=lH (QSx.out.below hs2 (nR _));have HSb2:=lH (QSb1.out.below hs2 (nR _));have HB2:=lH (HB1x.out.trans (hs2.mono HB1x.out.size));clear hs1 hs2 hb1 hb2 HC hW;obtain⟨W2,hW2⟩: ∃q,q=u2:=⟨_,rfl⟩;subst hW2;obtain⟨x1,n⟩:=x;obtain⟨b1,m⟩:=b;have hx1:=HX.out.len;have hb1:=HHd.out.len;simp only at QSx2 HSb2 hx1 hb1;have HC60:Hid (Calls tP 60 #[.slice a1 B.links.length c1,.slice a B.links.length c] W2 fun e w'=>e= .returned (.bool (iq x1 b1))/\Below W2.heap.size W2 w'):=lH (by
    have:=c41 x1 b1 a1 a c1 c W2 QSx2.out HSb2.out (by omega) (by omega);rw[hx1,hb1] at this;exact this)
   clear hx1 hb1;by_cases h1:n<m
   ·have HN:Hid (iC ((A.map O).take (i+1))=some (x1,n)):=lH (by rw[HK.out,if_pos (amQ.2 (.inl h1))]);go_wp2;go_roundw
    case rel=>exact⟨i+1,(x1,n),a1,c1,by omega,by omega,by go_num,rfl,HN.out,HX.out,QSx2.out,HB2.out⟩
    case measure=>simp[intOf];omega
   ·by_cases h2:n=m
    ·cases hls:iq x1 b1 with
     |true=>
      have HN:Hid (iC ((A.map O).take (i+1))=some (x1,n)):=lH (by rw[HK.out,if_pos (amQ.2 (.inr ⟨h2,hls⟩))]);rw[hls] at HC60
      go_wp2_with fail
      refine HC60.out.mono ?_;rintro e w5 ⟨rfl,hb5⟩;have QSx5:=lH (QSx2.out.below hb5 (nR _));have HB5:=lH (HB2.out.trans (hb5.mono HB2.out.size));clear hb5;go_wp2;go_roundw
      case rel=>exact⟨i+1,(x1,n),a1,c1,by omega,by omega,by go_num,rfl,HN.out,HX.out,QSx5.out,HB5.out⟩
      case measure=>simp[intOf];omega
     |false=>
      have HN:Hid (iC ((A.map O).take (i+1))=some (b1,m)):=lH (by rw[HK.out,if_neg (fun h=>by rcases amQ.1 h with h |⟨_,h⟩;exact h1 h;rw[hls] at h;cases h)]);rw[hls] at HC60
      go_wp2_with fail
      refine HC60.out.mono ?_;rintro e w5 ⟨rfl,hb5⟩;have HSb5:=lH (HSb2.out.below hb5 (nR _));have HB5:=lH (HB2.out.trans (hb5.mono HB2.out.size));clear hb5;go_wp2;go_roundw
      case rel=>exact⟨i+1,(b1,m),a,c,by omega,by omega,by go_num,rfl,HN.out,HHd.out,HSb5.out,HB5.out⟩
      case measure=>simp[intOf];omega
    ·have HN:Hid (iC ((A.map O).take (i+1))=some (b1,m)):=lH (by rw[HK.out,if_neg (fun h=>by rcases amQ.1 h with h |⟨h,_⟩;exact h1 h;exact h2 h)]);go_wp2;go_roundw
     case rel=>exact⟨i+1,(b1,m),a,c,by omega,by omega,by go_num,rfl,HN.out,HHd.out,HSb2.out,HB2.out⟩
     case measure=>simp[intOf];omega
  ·have hie:i=A.length:=by omega
   have hRb:b=R:=by
    have h:=HLe.out;rw[hie,HTn.out,HBest.out,Option.some.injEq] at h;exact h.symm
   subst hRb;have H5:=lH (H56.out b a c wr HHd.out (HBW.out.trans (Hb.out.mono HBW.out.size)) HSb.out);have HLn:=lH HHd.out.len;have hlt2: ¬(i:Int)<(A.length:Int):=by omega
   clear hie;obtain⟨p0,p1,p2,p3⟩:=HCX.out wr Hb.out
   go_wp2_with fail
   refine H5.out.mono ?_;rintro e w5 ⟨rfl,hb5⟩;have HSb5:=lH (HSb.out.below hb5 (nR _));have HB5:=lH (HBW.out.trans ((Hb.out.trans (hb5.mono Hb.out.size)).mono HBW.out.size));clear hb5 p0 p1 p2 p3;go_wp2
   go_ret2
   exact⟨a,c,rfl,HSb5.out,HLn.out,HB5.out⟩
def amE (B:Bk) (x:Int) (n:Nat):List Int:=(List.range n).map fun j=>if ((B.spokes+j:Nat):Int)=x then 0 else 5
theorem anw (B:Bk) (x:Int) (n:Nat):ints (amE B x (n+1))=ints (amE B x n)++ [.int .i64 (if ((B.spokes+n:Nat):Int)=x then 0 else 5)]:=by
 unfold amE ints;rw[List.range_succ];simp
theorem amR (B:Bk) (x:Int) (n:Nat):(amE B x n).length=n:=by simp[amE]
theorem anx (B:Bk) (x:Int) (n:Nat): ∀i,i<(amE B x n).length->trk (amE B x n) i=(iY (mJ x) (B.spokes+i):Nat):=fun i hi=>by
 rw[amR] at hi;unfold trk amE iY mJ;rw[lD,List.getElem?_map,List.getElem?_range hi];simp only[Option.map_some,Option.getD_some];by_cases h:((B.spokes+i:Nat):Int)=x
 ·have e:(((B.spokes+i:Nat):Int) != x)=false:=by simpa using h
  rw[if_pos h,e];rfl
 ·have e:(((B.spokes+i:Nat):Int) != x)=true:=by simpa using h
  rw[if_neg h,e];rfl
theorem anf {may may':Int->Bool} (h: ∀i,iY may i=iY may' i): ∀(m:Nat) (t:List Int),moreL may m t=moreL may' m t
 | 0,_=>rfl
 |m+1,t=>by
  unfold moreL;rw[h]
  congr 1
  funext n
  exact anf h m _
theorem anz {B:Bk} {may may':Int->Bool} (h: ∀i,iY may i=iY may' i):aC B may=aC B may':=by
 unfold aC oP;rw[anf h]
theorem ang (B:Bk):aC B (mJ (-1))=aC B aT:=anz fun i=>by
 unfold iY mJ aT;have:((i:Int) != -1)=true:=by simp
 rw[this]
theorem r59 (V:BkV) (B:Bk) (hB:B.Fine) (x:Int) (w:World):
  Calls tP 59 #[V.val B,.int .i64 x] w fun e w'=> ∃a c,e= .returned (.slice a (B.links.length-B.spokes) c)/\SlI w' a (amE B x (B.links.length-B.spokes))/\Below w.heap.size w w':=by
 have hll:=hB.links;have htt:=hB.towns;have HEnd:Hid (∀(v:Value) (u:World),u.ownsRow w.heap.size 3 1 v (B.links.length-B.spokes) (ints (amE B x (B.links.length-B.spokes)))->Below w.heap.size w u-> ∃a c,(.returned v:Ending)= .returned (.slice a (B.links.length-B.spokes) c)/\SlI u a (amE B x (B.links.length-B.spokes))/\Below w.heap.size w u):=lH fun v u ho hb=>by
  obtain⟨a,c,e,hs⟩:=aeU (amR B x _) ho;subst e;exact⟨a,c,rfl,hs,hb⟩
 have HSn:=lH (anw B x);have HS0:Hid (ints (amE B x 0)= []):=lH rfl;have hsp:B.spokes=B.towns.length-1:=rfl;rw[hsp] at hll HEnd HSn ⊢;obtain⟨ta,la,pa,tc,lc,pc⟩:=V;simp only[BkV.val] at *;have hl6:=hll.2;have hl1:=hll.1;have ht1:=htt.1;have ht4:=htt.2;clear hB hll htt hsp;obtain⟨i0,hi,hz0,hz1,hz2⟩:=info_parts info3;go_enter Tryz.func59,Tryz.ntmps59
 go_wp2_with fail
 refine(c73 B.hours ta B.towns.length tc la B.links.length lc pa B.pairs.length pc _ (by omega) (by omega)).mono ?_;rintro e W ⟨rfl,hb1⟩;have HBW:Hid (Below w.heap.size w W):=lH (((bR _ _).alloc (nR _) _).trans (hb1.mono (by simp)));have HW:=lH (amL (V:=⟨ta,la,pa,tc,lc,pc⟩) (by simpa using hb1));clear hb1
 go_wp2_with fail
 go_loopw [5,6] (fun v i wr=> ∃k:Nat,k<=B.links.length-(B.towns.length-1)/\i= .int .i64 ((B.towns.length-1+k:Nat):Int)/\wr.ownsRow W.heap.size 3 1 v k (ints (amE B x k))/\Below W.heap.size W wr) (fun _ i _=>B.links.length-(intOf i).toNat)
 case atStart=>exact⟨0,Nat.zero_le _,by simp,by rw[HS0.out];exact World.ownsRow_nil _ _ _ _,bR _ _⟩
 case round=>
  obtain⟨k,hk,rfl,hown,hb⟩:=hrel;have Hown:=lH hown;have Hb:=lH hb;clear hown hb;obtain⟨p0,p1,p2,p3⟩:=HW.out;have q2:=cell_below Hb.out p2 (nR _);clear p0 p1 p2 p3;obtain⟨i,hik⟩: ∃i,i=B.towns.length-1+k:=⟨_,rfl⟩;rw[<-hik];have HSn1:=lH (HSn.out k);rw[<-hik] at HSn1;have HIK:=lH hik;have hil:i<=B.links.length:=by omega
  clear hik;have hsz:W.heap.size<=wr.heap.size:=Hb.out.size;have HSz:=lH hsz;clear hsz;by_cases hlt:i<B.links.length
  ·have hlt2:(i:Int)<(B.links.length:Int):=by omega
   have HN:Hid (∀y:Int,∀(j:Nat) (u:Value),([.int .i64 y]:List Value)[j]? =some u->(wr.alloc (.cells #[.int .i64 y] 3)).cell? ((⟨wr.heap.size,0,none⟩:Addr).add j)=some u):=lH fun y j u hj=>by
    match j,hj with
    | 0,hj=>cases hj;simp only[Addr.add];go_simp
   by_cases hx:(i:Int)=x
   ·have hbe:((i:Int)==x)=true:=by simpa using hx
    rw[if_pos hx] at HSn1;clear hx
    go_wp2_with (at_builtin;refine wpList_append_own _ rfl _ _ 33 rfl W.heap.size 3 i0 (.int .i64 0) 1 8 Tryz.underlying33 hi hz0 hz1 hz2 rfl (by decide) _ _ _ rfl (Hown.out.alloc _) ⟨wr.heap.size,0,none⟩ 1 1 [.int .i64 0] rfl rfl (HN.out 0) (by simp[Value.oneCell']) (by unfold maxLen;omega) (by omega) (by simp only[World.size_alloc];have:=HSz.out;omega) ?_)
    intro v' w4 hown' hgrow _;have HR:=lH (Bo Hb.out Hown.out hown' hgrow);rw[<-HSn1.out] at HR;clear hown' hgrow;go_wp2;go_roundw
    case rel=>exact⟨k+1,by have:=HIK.out;omega,by rw[show B.towns.length-1+(k+1)=i+1 by have:=HIK.out;omega];go_num,HR.out.1,HR.out.2⟩
    case measure=>simp[intOf];omega
   ·have hbe:((i:Int)==x)=false:=by simpa using hx
    rw[if_neg hx] at HSn1;clear hx
    go_wp2_with (at_builtin;refine wpList_append_own _ rfl _ _ 33 rfl W.heap.size 3 i0 (.int .i64 0) 1 8 Tryz.underlying33 hi hz0 hz1 hz2 rfl (by decide) _ _ _ rfl (Hown.out.alloc _) ⟨wr.heap.size,0,none⟩ 1 1 [.int .i64 5] rfl rfl (HN.out 5) (by simp[Value.oneCell']) (by unfold maxLen;omega) (by omega) (by simp only[World.size_alloc];have:=HSz.out;omega) ?_)
    intro v' w4 hown' hgrow _;have HR:=lH (Bo Hb.out Hown.out hown' hgrow);rw[<-HSn1.out] at HR;clear hown' hgrow;go_wp2;go_roundw
    case rel=>exact⟨k+1,by have:=HIK.out;omega,by rw[show B.towns.length-1+(k+1)=i+1 by have:=HIK.out;omega];go_num,HR.out.1,HR.out.2⟩
    case measure=>simp[intOf];omega
  ·have hke:k=B.links.length-(B.towns.length-1):=by have:=HIK.out;omega
   subst hke;have HF:=lH (HEnd.out u5 wr (Hown.out.base HBW.out.size) (HBW.out.trans (Hb.out.mono HBW.out.size)));have hlt2: ¬(i:Int)<(B.links.length:Int):=by omega
   go_wp2;go_ret;obtain⟨a,c,e1,h1,h2⟩:=HF.out;exact⟨a,⟨c,e1⟩,h1,h2⟩
theorem amS {B:Bk} (hG:Good B) (may:Int->Bool):0<=(aC B may).2/\(aC B may).2<=17820:=by
 obtain⟨t,_,_,h5,_,e⟩:=aea hG may;have hT: ∀k,0<=trk t k/\trk t k<=5:=fun k=>MV h5 (by omega) k;rw[e];unfold adt;have hll:=hG.fine.links;have:=ED hG (T:=trk (jC B t)) (fun k=>by
  rw[adD]
  split
  ·exact ZJ hG.fine (fun k=>(hT k).1) k
  ·have:=hT k;omega) B.links.length
 omega
def rowOf (B:Bk) (may:Int->Bool):List Int:=if B.alarm=0 then (aC B may).1 else []
def amG (B:Bk) (may:Int->Bool):Int:=if B.alarm=0 then (aC B may).2 else 0
def ChQ (w:World) (B:Bk) (may:Int->Bool) (e:Ending) (w':World):Prop:= ∃a c,e= .returned (.tuple #[.slice a (rowOf B may).length c,.int .i64 (amG B may),.int .i64 B.alarm])/\SlI w' a (rowOf B may)/\Below w.heap.size w w'
theorem am0 {w w':World} {B:Bk} {may:Int->Bool} (hA:B.alarm=0) {a:Option Addr} {c:Nat} (hl:(aC B may).1.length=B.links.length) (h:SlI w' a (aC B may).1) (hb:Below w.heap.size w w'):ChQ w B may (.returned (.tuple #[.slice a B.links.length c,.int .i64 (aC B may).2,.int .i64 0])) w':=by
 unfold ChQ rowOf amG;rw[if_pos hA,if_pos hA,hA,hl];exact⟨a,c,rfl,h,hb⟩
theorem am1 {w w':World} {B:Bk} {may:Int->Bool} (hA: ¬B.alarm=0) (hb:Below w.heap.size w w'):ChQ w B may (.returned (.tuple #[.slice none 0 0,.int .i64 0,.int .i64 B.alarm])) w':=by
 unfold ChQ rowOf amG;rw[if_neg hA,if_neg hA];exact⟨none,0,rfl,fun i x h=>by simp at h,hb⟩
theorem anh {w w':World} {B:Bk} {may:Int->Bool} {e:Ending} (h:Nk w (aC B may) B.links.length B.alarm e w'):ChQ w B may e w':=by
 obtain⟨h1,h2,hb⟩:=h;by_cases hA:B.alarm=0
 ·obtain⟨fa,fc,rfl,hs,hl,_,_⟩:=h1 hA;rw[hl];exact am0 hA hl hs hb
 ·rw[h2 hA];exact am1 hA hb
theorem am2 (V:BkV) (B:Bk) (hB:B.Fine) (x:Int) (u:World):Calls tP 59 #[V.val B,.int .i64 x] u fun e u'=> ∃a c,e= .returned (.slice a (B.links.length-B.spokes) c)/\SlI u' a (amE B x (B.links.length-B.spokes))/\Below u.heap.size u u':=r59 V B hB x u
theorem am3 (V:BkV) (B:Bk) (hG:Good B) (x:Int) {w:World} (hs:aB w V B) (a:Option Addr) (c:Nat) (u:World) (hu:Below w.heap.size w u) (hm:SlI u a (amE B x (B.links.length-B.spokes))):
  Calls tP 58 #[V.val B,.slice a (B.links.length-B.spokes) c] u fun e u'=> ∃ba bc,e= .returned (.tuple #[.slice ba B.links.length bc,.int .i64 (aC B (mJ x)).2])/\SlI u' ba (aC B (mJ x)).1/\(aC B (mJ x)).1.length=B.links.length/\Below u.heap.size u u':=by
 have h:=r58 V B hG (mJ x) _ (amR B x _) (anx B x _) a c u (hs.below hu (nR _)) hm;rwa [amR] at h
theorem r13 (V:BkV) (B:Bk) (xs:List Int) (xa:Option Addr) (xc:Nat) (w:World) (hs:aB w V B) (hz: ∀t∈B.towns,t.size<=1000000) (hx:SlI w xa xs) (hxl:xs.length<=1000000):
  Calls tP 13 #[V.val B,.slice xa xs.length xc] w fun e w'=>e= .returned (oM B xs)/\Below w.heap.size w w':=by
 have hb0:Below w.heap.size w (w.alloc (.cells #[.int .i64 B.hours,.slice V.ta B.towns.length V.tc,.slice V.la B.links.length V.lc,.slice V.pa B.pairs.length V.pc] 26)):=(bR _ _).alloc (nR _) _;have HC:=lH (c58 V B xs xa xc _ (hs.below hb0 (nR _)) hz (hx.below hb0 (nR _)) hxl);have HB0:=lH hb0;clear hb0 hz;by_cases hok:aH B xs true=0
 ·obtain⟨h0,h1,h2⟩:=nN hok;have hG:=gY h0;have HR:Hid (oM B xs= .tuple #[.int .i64 (fZ B (trk xs) xs.length),.int .i64 0]):=lH (by unfold oM;rw[if_pos hok]);have H56:Hid (∀u,Below w.heap.size w u->Calls tP 56 #[V.val B,.slice xa xs.length xc] u _):=lH fun u hu=>r56 V B hG xs xa xc u (hs.below hu (nR _)) (hx.below hu (nR _)) h1 (fun k=>by have:=lZ h2 k;omega);rw[HR.out];rw[hok] at HC;generalize fZ B (trk xs) xs.length=F at *;obtain⟨ta,la,pa,tc,lc,pc⟩:=V;simp only[BkV.val] at *;clear hs hx hok h0 h1 h2 hG HR;go_enter Tryz.func13,Tryz.ntmps13
  go_wp2_with fail
  refine HC.out.mono ?_;rintro e w1 ⟨rfl,hb1⟩;have HB1:=lH (HB0.out.trans (hb1.mono (by simp)));obtain⟨p0,p1,p2,p3⟩:=amL (V:=⟨ta,la,pa,tc,lc,pc⟩) (u:=w1) (by simpa using hb1);clear hb1 HC HB0
  go_wp2_with fail
  refine(H56.out w1 HB1.out).mono ?_;rintro e w2 ⟨rfl,hb2⟩;have HB2:=lH (HB1.out.trans (hb2.mono HB1.out.size));clear hb2 p0 p1 p2 p3;go_wp2
  go_ret2
  exact⟨rfl,HB2.out⟩
 ·have HR:Hid (oM B xs= .tuple #[.int .i64 0,.int .i64 (aH B xs true)]):=lH (by unfold oM;rw[if_neg hok]);rw[HR.out];generalize aH B xs true=A at *;obtain⟨ta,la,pa,tc,lc,pc⟩:=V;simp only[BkV.val] at *;clear hs hx HR;go_enter Tryz.func13,Tryz.ntmps13
  go_wp2_with fail
  refine HC.out.mono ?_;rintro e w1 ⟨rfl,hb1⟩;have HB1:=lH (HB0.out.trans (hb1.mono (by simp)));clear hb1 HC HB0;go_wp2
  go_ret2
  exact⟨rfl,HB1.out⟩
theorem r15 (V:BkV) (B:Bk) (w:World) (hs:aB w V B) (hz: ∀t∈B.towns,t.size<=1000000):Calls tP 15 #[V.val B] w (ChQ w B aT):=by
 have hb0:Below w.heap.size w (w.alloc (.cells #[.int .i64 B.hours,.slice V.ta B.towns.length V.tc,.slice V.la B.links.length V.lc,.slice V.pa B.pairs.length V.pc] 26)):=(bR _ _).alloc (nR _) _;have HCk:=lH (c20 V B _ (hs.below hb0 (nR _)) hz);have HB0:=lH hb0;clear hb0 hz;by_cases hA:B.alarm=0
 ·have hG:=gY hA;have H59m:Hid (∀u,Calls tP 59 #[V.val B,.int .i64 (-1)] u _):=lH (fun u=>am2 V B hG.fine (-1) u);have H58m:Hid (∀a c u,Below w.heap.size w u->SlI u a (amE B (-1) (B.links.length-B.spokes))->Calls tP 58 #[V.val B,.slice a (B.links.length-B.spokes) c] u _):=lH (fun a c u hu hm=>am3 V B hG (-1) hs a c u hu hm);have HEnd:Hid (∀a c w',SlI w' a (aC B aT).1->(aC B aT).1.length=B.links.length->Below w.heap.size w w'->ChQ w B aT (.returned (.tuple #[.slice a B.links.length c,.int .i64 (aC B aT).2,.int .i64 0])) w'):=lH fun a c w' h hl hb=>am0 hA hl h hb;rw[ang] at H58m;rw[hA] at HCk;generalize ChQ w B aT=Q at *;generalize aC B aT=R at *;obtain⟨ta,la,pa,tc,lc,pc⟩:=V;simp only[BkV.val] at *;clear hs hG hA;go_enter Tryz.func15,Tryz.ntmps15
  go_wp2_with fail
  refine HCk.out.mono ?_;rintro e W ⟨rfl,hb1⟩;have HBW:=lH (HB0.out.trans (hb1.mono (by simp)));have HW:=lH (amL (V:=⟨ta,la,pa,tc,lc,pc⟩) (u:=W) (by simpa using hb1));clear hb1 HCk HB0;have hW1:Below W.heap.size W W.drew:=(bR _ _).drew;have HC: ∀u,Below W.heap.size W u->u.cell? ⟨w.heap.size,0,none⟩=some (.int .i64 B.hours)/\u.cell? ⟨w.heap.size,1,none⟩=some (.slice ta B.towns.length tc)/\u.cell? ⟨w.heap.size,2,none⟩=some (.slice la B.links.length lc)/\u.cell? ⟨w.heap.size,3,none⟩=some (.slice pa B.pairs.length pc):=fun u hu=>⟨cell_below hu HW.out.1 (nR _),cell_below hu HW.out.2.1 (nR _),cell_below hu HW.out.2.2.1 (nR _),cell_below hu HW.out.2.2.2 (nR _)⟩
  go_wp2_with fail
  refine aif 9 9 (fun u=>Below W.heap.size W u) (by kernel_rfl) ?_;refine ahN 0 (.agg #[.int .i64 B.hours,.slice ta B.towns.length tc,.slice la B.links.length lc,.slice pa B.pairs.length pc]) hW1 ?_ (hr:=fun u hu=>by obtain⟨c0x,c1x,c2x,c3x⟩:=HC u hu;go_simp);refine ahN 1 (.agg #[.int .i64 B.hours,.slice ta B.towns.length tc,.slice la B.links.length lc,.slice pa B.pairs.length pc]) hW1 ?_ (hr:=fun u hu=>by obtain⟨c0x,c1x,c2x,c3x⟩:=HC u hu;go_simp);refine ahQ 2 (h:= ?_);refine ahW (f:=59) (args:= #[.agg #[.int .i64 B.hours,.slice ta B.towns.length tc,.slice la B.links.length lc,.slice pa B.pairs.length pc],.int .i64 (-1)]) (w':=W.drew) (by go_simp) ((H59m.out W.drew).mono ?_);rintro e u1 ⟨a1,c1,rfl,hm1,hb1⟩;have hs1:=hW1.trans (hb1.mono hW1.size);refine⟨_,rfl,fun _=>hs1, ?_⟩;refine ahQ 3 (h:= ?_);refine ahW (f:=58) (args:= #[.agg #[.int .i64 B.hours,.slice ta B.towns.length tc,.slice la B.links.length lc,.slice pa B.pairs.length pc],.slice a1 (B.links.length-B.spokes) c1]) (w':=u1) (by go_simp) ((H58m.out a1 c1 u1 (HBW.out.trans (hs1.mono HBW.out.size)) hm1).mono ?_);rintro e u2 ⟨b1,bc1,rfl,hb1,hbl1,hb2⟩;have hs2:=hs1.trans (hb2.mono hs1.size);refine⟨_,rfl,fun _=>hs2, ?_⟩;refine ahN 4 (.tuple #[.slice b1 B.links.length bc1,.int .i64 R.2]) hs2 ?_ (hr:=fun u hu=>by go_simp);refine ahN 5 (.slice b1 B.links.length bc1) hs2 ?_ (hr:=fun u hu=>by go_simp);refine ahN 6 (.int .i64 R.2) hs2 ?_ (hr:=fun u hu=>by go_simp);refine ahN 7 (.slice b1 B.links.length bc1) hs2 ?_ (hr:=fun u hu=>by go_simp);refine ahN 8 (.int .i64 R.2) hs2 ?_ (hr:=fun u hu=>by go_simp);refine ahZ ?_;go_simp;have HF:=lH (HEnd.out b1 bc1 u2 hb1 hbl1 (HBW.out.trans (hs2.mono HBW.out.size)));clear hs1 hs2 hb1 hb2 HC hW1 hbl1 hm1;go_wp2;refine bodyPost_ret (v:= .tuple #[.slice b1 B.links.length bc1,.int .i64 R.2,.int .i64 0]) (by simp[results,Tryz.results15,go_sem]) rfl ?_;exact HF.out
 ·have HEnd:Hid (∀w',Below w.heap.size w w'->ChQ w B aT (.returned (.tuple #[.slice none 0 0,.int .i64 0,.int .i64 B.alarm])) w'):=lH fun w' hb=>am1 hA hb;generalize ChQ w B aT=Q at *;generalize B.alarm=al at *;obtain⟨ta,la,pa,tc,lc,pc⟩:=V;simp only[BkV.val] at *;clear hs;go_enter Tryz.func15,Tryz.ntmps15
  go_wp2_with fail
  refine HCk.out.mono ?_;rintro e w1 ⟨rfl,hb1⟩;have HB1:=lH (HB0.out.trans (hb1.mono (by simp)));clear hb1 HCk HB0;go_wp2;refine bodyPost_ret (v:= .tuple #[.slice none 0 0,.int .i64 0,.int .i64 al]) (by simp[results,Tryz.results15,go_sem]) rfl ?_;exact HEnd.out _ HB1.out
theorem aij {w:World} {n:Nat} {a b c d:Value} (c0:w.cell? ⟨n,0,none⟩=some a) (c1:w.cell? ⟨n,1,none⟩=some b) (c2:w.cell? ⟨n,2,none⟩=some c) (c3:w.cell? ⟨n,3,none⟩=some d)
  (f0:w.frozen? ⟨n,0,none⟩=false) (f1:w.frozen? ⟨n,1,none⟩=false) (f2:w.frozen? ⟨n,2,none⟩=false) (f3:w.frozen? ⟨n,3,none⟩=false):dW w n a b c d:=⟨World.block_lt_of_cell? w _ c0,c0,c1,c2,c3,f0,f1,f2,f3⟩
theorem aiK {w:World} {b:Nat} {a0 a1 a2 a3:Value} (h:dW w b a0 a1 a2 a3) (x0 x1 x2 x3:Value):dW ((((w.setCell ⟨b,0,none⟩ x0).setCell ⟨b,1,none⟩ x1).setCell ⟨b,2,none⟩ x2).setCell ⟨b,3,none⟩ x3) b x0 x1 x2 x3:=by
 obtain⟨hz,c0,c1,c2,c3,f0,f1,f2,f3⟩:=h;refine aij ?_ ?_ ?_ ?_ ?_ ?_ ?_ ?_<;>go_simp
theorem ahT (w:World) (t:TypeId) (a0 a1 a2 a3:Value):dW (w.alloc (.cells #[a0,a1,a2,a3] t)) w.heap.size a0 a1 a2 a3:=⟨by simp,by go_simp,by go_simp,by go_simp,by go_simp,by go_simp,by go_simp,by go_simp,by go_simp⟩
theorem aik {n m b:Nat} {w w':World} (h:Below n w w') (hb:n<=b) (hm:m=n) (x0 x1 x2 x3:Value):Below m w ((((w'.setCell ⟨b,0,none⟩ x0).setCell ⟨b,1,none⟩ x1).setCell ⟨b,2,none⟩ x2).setCell ⟨b,3,none⟩ x3):=by
 subst hm;exact(((h.setCell (p:=⟨b,0,none⟩) hb _).setCell (p:=⟨b,1,none⟩) hb _).setCell (p:=⟨b,2,none⟩) hb _).setCell (p:=⟨b,3,none⟩) hb _
abbrev ahS:=Int×Int×List (Int×Int)
structure RwV (w:World) (l:List ahS) (vs:List (Int×Int×Value)):Prop where
 len:vs.length=l.length
 get: ∀(i:Nat) (x:ahS),l[i]? =some x-> ∃sa sc,vs[i]? =some (x.1,x.2.1,.slice sa x.2.2.length sc)/\SlB w sa x.2.2/\x.2.2.length<=1000000
section
variable {w w':World} {l l':List ahS} {vs vs':List (Int×Int×Value)}
theorem RwV.nil:RwV w [] []:=⟨rfl,fun i x h=>by cases h⟩
theorem RwV.below (h:RwV w l vs) {n:Nat} (hb:Below n w w') (hn:w.heap.size<=n):RwV w' l vs:=⟨h.len,fun i x hx=>by
 obtain⟨sa,sc,h1,h2,h3⟩:=h.get i x hx;exact⟨sa,sc,h1,h2.below hb hn,h3⟩⟩
theorem RwV.append (h:RwV w l vs) (h':RwV w l' vs'):RwV w (l++l') (vs++vs'):=⟨by rw[List.length_append,List.length_append,h.len,h'.len],fun i x hx=>by
 by_cases c:i<l.length
 ·rw[List.getElem?_append_left c] at hx;obtain⟨sa,sc,h1,h2,h3⟩:=h.get i x hx;exact⟨sa,sc,by rw[List.getElem?_append_left (by rw[h.len];exact c)];exact h1,h2,h3⟩
 ·rw[List.getElem?_append_right (by omega)] at hx;obtain⟨sa,sc,h1,h2,h3⟩:=h'.get _ x hx;exact⟨sa,sc,by rw[List.getElem?_append_right (by rw[h.len];omega),h.len];exact h1,h2,h3⟩⟩
theorem RwV.take (h:RwV w l vs) (k:Nat):RwV w (l.take k) (vs.take k):=⟨by rw[List.length_take,List.length_take,h.len],fun i x hx=>by
 rw[List.getElem?_take] at hx
 split at hx
 ·rename_i c;obtain⟨sa,sc,h1,h2,h3⟩:=h.get i x hx;exact⟨sa,sc,by rw[List.getElem?_take,if_pos c];exact h1,h2,h3⟩
 ·cases hx⟩
theorem RwV.drop (h:RwV w l vs) (k:Nat):RwV w (l.drop k) (vs.drop k):=⟨by rw[List.length_drop,List.length_drop,h.len],fun i x hx=>by
 rw[List.getElem?_drop] at hx;obtain⟨sa,sc,h1,h2,h3⟩:=h.get _ x hx;exact⟨sa,sc,by rw[List.getElem?_drop];exact h1,h2,h3⟩⟩
theorem RwV.one (h:RwV w l vs): ∀u∈tri vs,u.oneCell'=true:=EY _ fun x hx=>by
 obtain⟨i,hi,rfl⟩:=List.getElem_of_mem hx;obtain⟨sa,sc,h1,_,_⟩:=h.get i _ (lG (by rw[<-h.len];exact hi));rw[lG hi] at h1;rw[Option.some.inj h1];rfl
theorem ah2: ∀(a b:List (Int×Int×Value)),tri (a++b)=tri a++tri b
 | [],_=>rfl
 |x::a,b=>by simp[tri,ah2 a b]
theorem aiL (k:Nat): ∀(a:List (Int×Int×Value)),k<=a.length-> ∀j,(tri (a.drop k))[j]? =(tri a)[k*3+j]? :=by
 intro a hk j;have:tri a=tri (a.take k)++tri (a.drop k):=by rw[<-ah2,List.take_append_drop]
 rw[this,List.getElem?_append_right (by rw[ES,List.length_take];omega),ES,List.length_take]
 congr 1
 omega
theorem aiM (k:Nat) (a:List (Int×Int×Value)) {j:Nat} {u:Value} (h:(tri (a.take k))[j]? =some u):(tri a)[j]? =some u:=by
 have:tri a=tri (a.take k)++tri (a.drop k):=by rw[<-ah2,List.take_append_drop]
 rw[this,List.getElem?_append_left (List.getElem?_eq_some_iff.1 h).1];exact h
end
def ahP (w:World) (b o:Nat) (vs:List (Int×Int×Value)):Prop:= ∀(j:Nat) (u:Value),(tri vs)[j]? =some u->w.cell? ((⟨b,o,none⟩:Addr).add j)=some u
theorem ahP.below {w w':World} {b o n:Nat} {vs:List (Int×Int×Value)} (h:ahP w b o vs) (hb:Below n w w') (hn:w.heap.size<=n):ahP w' b o vs:=fun j u hu=>by
 have:=h j u hu;rw[BH] at this ⊢;exact cell_below hb this hn
theorem ahP.take {w:World} {b o:Nat} {vs:List (Int×Int×Value)} (h:ahP w b o vs) (k:Nat):ahP w b o (vs.take k):=fun j u hu=>h j u (aiM k vs hu)
theorem ahP.drop {w:World} {b o:Nat} {vs:List (Int×Int×Value)} (h:ahP w b o vs) {k:Nat} (hk:k<=vs.length):ahP w b (o+k*3) (vs.drop k):=fun j u hu=>by
 rw[aiL k vs hk] at hu;have:=h _ u hu;rw[BH] at this ⊢;rwa [Nat.add_assoc]
end Go.Proofs.YtaikibfkggglgaaGreatDoor
