/- A part of the proof of a law; no conditions of its own. -/
import Derived.Test.YtaikibfkggglgaaDoorTrunks02
set_option maxRecDepth 100000
open Nat renaming le_refl→nR
open Go.Lib renaming hid→lH
open Go.RowKit.Below renaming refl→bR
open Go.Proofs.Tryd renaming prog→tP
open List renaming getElem?_eq_getElem→lG
open Go.World renaming block_lt_of_cell?→wBk
set_option maxHeartbeats 4000000
namespace Go.Proofs.YtaikibfkggglgaaDoor
open Go.RowKit Go.Rent Go.Tp Go.Conc
theorem alv {w u:World} {V:BkV} {B:Bk} (h:Below (w.heap.size+1) (w.alloc (.cells #[.int .i64 B.hours,.slice V.ta B.towns.length V.tc,.slice V.la B.links.length V.lc,.slice V.pa B.pairs.length V.pc] 26)) u):
  u.cell? ⟨w.heap.size,0,none⟩=some (.int .i64 B.hours)/\u.cell? ⟨w.heap.size,1,none⟩=some (.slice V.ta B.towns.length V.tc)/\u.cell? ⟨w.heap.size,2,none⟩=some (.slice V.la B.links.length V.lc)/\u.cell? ⟨w.heap.size,3,none⟩=some (.slice V.pa B.pairs.length V.pc):=by
 obtain⟨hc,_⟩:=ak h;refine⟨?_, ?_, ?_, ?_⟩<;>(rw[hc _ _ (by omega)];go_simp)
theorem c22 (V:BkV) (B:Bk) (xs:List Int) (xa:Option Addr) (xc:Nat) (w:World) (hs:aB w V B) (hz: ∀t∈B.towns,t.size<=1000000) (hx:SlI w xa xs) (hxl:xs.length<=1000000):
  Calls tP 22 #[V.val B,.slice xa xs.length xc] w fun e w'=>e= .returned (jA B xs)/\Below w.heap.size w w':=by
 have hb0:Below w.heap.size w (w.alloc (.cells #[.int .i64 B.hours,.slice V.ta B.towns.length V.tc,.slice V.la B.links.length V.lc,.slice V.pa B.pairs.length V.pc] 26)):=(bR _ _).alloc (nR _) _;have HC:=lH (c58 V B xs xa xc _ (hs.below hb0 (nR _)) hz (hx.below hb0 (nR _)) hxl);have HBox:Hid (∀u,_->_):=lH (fun u=>alv (w:=w) (u:=u) (V:=V) (B:=B));have HB0:=lH hb0;clear hb0 hz;by_cases hok:aH B xs true=0
 ·obtain⟨h0,h1,h2⟩:=nN hok;have hG:=gY h0;have hT0:=lZ h2;have hh:=hG.fine.hours;have HE:Hid (jA B xs= .tuple #[.int .i64 (aQ B (trk xs) B.hours.toNat 0 1),.int .i64 0]):=lH (by unfold jA;rw[if_pos hok]);have HC65:Hid (∀u,Below w.heap.size w u->Calls tP 65 #[V.val B,.slice xa B.links.length xc] u _):=lH (fun u hu=>c65 V B hG xs xa xc u (hs.below hu (nR _)) (hx.below hu (nR _)) h1 hT0);have HC60:Hid (∀(k:Nat),(k:Int)<B.hours-> ∀u,Below w.heap.size w u->Calls tP 60 #[V.val B,.int .i64 (k:Int),.bool false] u _):=lH (fun k hk u hu=>alu V B hG false hs k hk u hu);have HC66:Hid (∀(k:Nat) ea ec u,Below w.heap.size w u->SlI u ea (aey B false k B.pairs.length)->Calls tP 66 #[V.val B,.slice xa B.links.length xc,.slice ea B.pairs.length ec] u _):=lH (fun k ea ec u hu he=>alL V B hG.fine false k hs.at xs xa xc hx h1 hT0 ea ec u hu he);have HYes:Hid (allFit B (trk xs)=true->aQ B (trk xs) B.hours.toNat 0 1=1):=lH (alV h0 (fun k=>(hT0 k).1));have HNev:Hid (∀h,h<B.hours.toNat->0<=B.lackIn (trk xs) false h->aQ B (trk xs) B.hours.toNat 0 1=2):=lH fun h a b=>alW a b;have HUns:Hid (allFit B (trk xs)=false->(∀h,h<B.hours.toNat->B.lackIn (trk xs) false h<0)->aQ B (trk xs) B.hours.toNat 0 1=0):=lH (alX h0 (fun k=>(hT0 k).1));rw[HE.out];rw[hok,h1] at HC;rw[h1];generalize allFit B (trk xs)=F at *;generalize aQ B (trk xs) B.hours.toNat 0 1=R at *;have HH:=lH hh;obtain⟨ta,la,pa,tc,lc,pc⟩:=V;simp only[BkV.val] at *;clear hs hx hxl hok h0 h1 h2 hG hT0 hh HE;go_enter Tryd.func22,Tryd.ntmps22
  go_wp2_with fail
  refine HC.out.mono ?_;rintro e w1 ⟨rfl,hb1⟩;have HB1:=lH (HB0.out.trans (hb1.mono (by simp)));obtain⟨p0,p1,p2,p3⟩:=HBox.out w1 (by simpa using hb1);have HP:=lH (show Below (w.heap.size+1) (w.alloc (.cells #[.int .i64 B.hours,.slice ta B.towns.length tc,.slice la B.links.length lc,.slice pa B.pairs.length pc] 26)) w1 by simpa using hb1);clear hb1 HC
  go_wp2_with fail
  refine(HC65.out w1 HB1.out).mono ?_;rintro e W ⟨rfl,hb2⟩;have HBW:=lH (HB1.out.trans (hb2.mono HB1.out.size));have HW:=lH (HBox.out W (HP.out.trans (hb2.mono (by have:=HP.out.size;simpa using this))));clear hb2 p0 p1 p2 p3 HP HB1
  cases F with
  |true=>
   have hR:=HYes.out (by trivial);subst hR;go_wp2
   go_ret2
   exact⟨rfl,HBW.out⟩
  |false=>
   go_wp2_with fail
   go_loopw [7] (fun i wr=> ∃k:Nat,(k:Int)<=B.hours/\i= .int .i64 (k:Int)/\(∀h,h<k->B.lackIn (trk xs) false h<0)/\Below W.heap.size W wr) (fun i _=>B.hours.toNat-(intOf i).toNat)
   case atStart=>exact⟨0,by have:=HH.out;omega,rfl,fun j h=>by omega,bR _ _⟩
   case round=>
    obtain⟨k,hk,rfl,hfk,hb⟩:=hrel;have hh:=HH.out;have Hfk:=lH hfk;have Hb:=lH hb;clear hfk hb;have p0:=cell_below Hb.out HW.out.1 (nR _);by_cases hlt:(k:Int)<B.hours
    ·have hW:Below W.heap.size W wr.drew:=Hb.out.drew;have HC: ∀u,Below W.heap.size W u->u.cell? ⟨w.heap.size,0,none⟩=some (.int .i64 B.hours)/\u.cell? ⟨w.heap.size,1,none⟩=some (.slice ta B.towns.length tc)/\u.cell? ⟨w.heap.size,2,none⟩=some (.slice la B.links.length lc)/\u.cell? ⟨w.heap.size,3,none⟩=some (.slice pa B.pairs.length pc):=fun u hu=>⟨cell_below hu HW.out.1 (nR _),cell_below hu HW.out.2.1 (nR _),cell_below hu HW.out.2.2.1 (nR _),cell_below hu HW.out.2.2.2 (nR _)⟩;have hno:=HNev.out k (by omega);have HN1:Hid (B.lackIn (trk xs) false k<0-> ∀h,h<k+1->B.lackIn (trk xs) false h<0):=lH fun hl h hh=>by
      by_cases e:h=k
      ·subst e;exact hl
      ·exact Hfk.out h (by omega)
     have H66:=HC66.out k;generalize B.lackIn (trk xs) false k=y at *;have HNo1:=lH hno;clear hno
     go_wp2_with fail
     refine aif 7 7 (fun u=>Below W.heap.size W u) (by kernel_rfl) ?_;refine ahN 0 (.agg #[.int .i64 B.hours,.slice ta B.towns.length tc,.slice la B.links.length lc,.slice pa B.pairs.length pc]) hW ?_ (hr:=fun u hu=>by obtain⟨c0,c1,c2,c3⟩:=HC u hu;go_simp);refine ahN 1 (.slice xa B.links.length xc) hW ?_ (hr:=fun u hu=>by go_simp);refine ahN 2 (.agg #[.int .i64 B.hours,.slice ta B.towns.length tc,.slice la B.links.length lc,.slice pa B.pairs.length pc]) hW ?_ (hr:=fun u hu=>by obtain⟨c0,c1,c2,c3⟩:=HC u hu;go_simp);refine ahN 3 (.int .i64 (k:Int)) hW ?_ (hr:=fun u hu=>by go_simp);refine ahQ 4 (h:= ?_);refine ahW (f:=60) (args:= #[.agg #[.int .i64 B.hours,.slice ta B.towns.length tc,.slice la B.links.length lc,.slice pa B.pairs.length pc],.int .i64 (k:Int),.bool false]) (w':=wr.drew) (by go_simp) ((HC60.out k hlt wr.drew (HBW.out.trans (hW.mono HBW.out.size))).mono ?_);rintro e u1 ⟨ea,ec,rfl,he,hb1⟩;have hs1:=hW.trans (hb1.mono hW.size);refine⟨_,rfl,fun _=>hs1, ?_⟩;refine ahQ 5 (h:= ?_);refine ahW (f:=66) (args:= #[.agg #[.int .i64 B.hours,.slice ta B.towns.length tc,.slice la B.links.length lc,.slice pa B.pairs.length pc],.slice xa B.links.length xc,.slice ea B.pairs.length ec]) (w':=u1) (by go_simp) ((H66 ea ec u1 (HBW.out.trans (hs1.mono HBW.out.size)) he).mono ?_);rintro e u2 ⟨rfl,hb2⟩;have hs2:=hs1.trans (hb2.mono hs1.size);refine⟨_,rfl,fun _=>hs2, ?_⟩;refine ahN 6 (.bool (!decide (y<0))) hs2 ?_ (hr:=fun u hu=>by go_simp);refine ahZ ?_;by_cases hy:y<0
     ·go_simp;go_wp2;go_roundw
      case rel=>exact⟨k+1,by omega,by go_num,HN1.out hy,hs2⟩
      case measure=>simp[intOf];omega
     ·have hR:=HNo1.out (by omega);subst hR;go_simp;go_wp2
      go_ret2
      exact⟨rfl,HBW.out.trans (hs2.mono HBW.out.size)⟩
    ·have hR:=HUns.out (by trivial) fun h hh=>Hfk.out h (by omega);subst hR;go_wp2
     go_ret2
     exact⟨rfl,HBW.out.trans (Hb.out.mono HBW.out.size)⟩
 ·have HE:Hid (jA B xs= .tuple #[.int .i64 0,.int .i64 (aH B xs true)]):=lH (by unfold jA;rw[if_neg hok]);rw[HE.out];generalize aH B xs true=A at *;obtain⟨ta,la,pa,tc,lc,pc⟩:=V;simp only[BkV.val] at *;clear hs hx hxl HE HBox;go_enter Tryd.func22,Tryd.ntmps22
  go_wp2_with fail
  refine HC.out.mono ?_;rintro e w1 ⟨rfl,hb1⟩;have HB1:=lH (HB0.out.trans (hb1.mono (by simp)));clear hb1 HC HB0;go_wp2
  go_ret2
  exact⟨rfl,HB1.out⟩
theorem al1 {xs:List Int} {k:Nat} {x:Int} (hx:xs[k]? =some x):tu (xs.take (k+1))=(tu (xs.take k)|| !btw x 0 5):=by
 unfold tu;rw[List.take_add_one,hx,List.any_append];simp
theorem al2 {xs:List Int} {k:Nat} (h:tu (xs.take k)=true):tu xs=true:=by
 unfold tu at *;rw[List.any_eq_true] at *;obtain⟨x,hx,h2⟩:=h;exact⟨x,List.mem_of_mem_take hx,h2⟩
theorem c24 (V:BkV) (B:Bk) (xs cs:List Int) (xa ca:Option Addr) (xc cc:Nat) (w:World) (hs:aB w V B) (hz: ∀t∈B.towns,t.size<=1000000) (hx:SlI w xa xs) (hxl:xs.length<=1000000) (hc:SlI w ca cs) (hcl:cs.length<=1000000):
  Calls tP 24 #[V.val B,.slice xa xs.length xc,.slice ca cs.length cc] w fun e w'=>e= .returned (fitsV B xs cs)/\Below w.heap.size w w':=by
 have hb0:Below w.heap.size w (w.alloc (.cells #[.int .i64 B.hours,.slice V.ta B.towns.length V.tc,.slice V.la B.links.length V.lc,.slice V.pa B.pairs.length V.pc] 26)):=(bR _ _).alloc (nR _) _;have HC:=lH (c58 V B xs xa xc _ (hs.below hb0 (nR _)) hz (hx.below hb0 (nR _)) hxl);have HBox:Hid (∀u,_->_):=lH (fun u=>alv (w:=w) (u:=u) (V:=V) (B:=B));have HB0:=lH hb0;clear hb0 hz;by_cases hok:aH B xs true=0
 ·obtain⟨h0,h1,h2⟩:=nN hok;by_cases hlen:cs.length=B.pairs.length
  ·have hG:=gY h0;have HR:Hid (fitsV B xs cs=if tu cs=true then .tuple #[.bool false,.int .i64 1] else .tuple #[.bool (Ew B xs cs),.int .i64 0]):=lH (by unfold fitsV;rw[if_pos hok,if_pos hlen]);have H66:Hid (tu cs=false-> ∀u,Below w.heap.size w u->Calls tP 66 #[V.val B,.slice xa B.links.length xc,.slice ca B.pairs.length cc] u _):=lH (fun hb u hu=>c66 V B hG.fine xs cs xa ca xc cc u (hs.at.below hu (nR _)) (hx.below hu (nR _)) h1 (hc.below hu (nR _)) hlen (lZ h2) (YR hb));have HX:=lH hc;have HLn:=lH hlen;have hpl:B.pairs.length<=1000000:=by omega
   rw[hok,h1] at HC;rw[h1,hlen];generalize fitsV B xs cs=R at *;generalize Ew B xs cs=F at *;obtain⟨ta,la,pa,tc,lc,pc⟩:=V;simp only[BkV.val] at *;clear hs hx hc hok h0 h1 h2 hG hlen;go_enter Tryd.func24,Tryd.ntmps24
   go_wp2_with fail
   refine HC.out.mono ?_;rintro e w1 ⟨rfl,hb1⟩;have HB1:=lH (HB0.out.trans (hb1.mono (by simp)));obtain⟨p0,p1,p2,p3⟩:=HBox.out w1 (by simpa using hb1);have HP:=lH (HBox.out w1 (by simpa using hb1));clear hb1 HC HB0
   go_wp2_with fail
   go_loopw [9] (fun i wr=> ∃k:Nat,k<=B.pairs.length/\i= .int .i64 (k:Int)/\tu (cs.take k)=false/\w1=wr) (fun i _=>B.pairs.length-(intOf i).toNat)
   case atStart=>exact⟨0,Nat.zero_le _,rfl,rfl,rfl⟩
   case round=>
    obtain⟨k,hk,rfl,hfk,rfl⟩:=hrel;have Hfk:=lH hfk;clear hfk;by_cases hlt:k<B.pairs.length
    ·have hlc:k<cs.length:=by have h:=HLn.out;omega
     have hxk:cs[k]? =some cs[k]:=lG hlc;obtain⟨b,o,rfl,g00⟩:=HX.out k _ hxk;have g0:=cell_below HB1.out g00 (nR _);have Hbt:=lH (al1 hxk);clear hxk g00;generalize cs[k]=x at *;clear hlc
     cases hno:btw x 0 5 with
     |false=>
      have HF:Hid (R= .tuple #[.bool false,.int .i64 1]):=lH (by rw[HR.out,al2 (k:=k+1) (by rw[Hbt.out,hno];simp),if_pos rfl])
      go_wp2_with (go_at_call 37;refine(gU _ _ _ _).mono ?_;rintro e w2 ⟨rfl,rfl⟩)
      go_ret2
      exact⟨by rw[HF.out]<;>rfl,HB1.out⟩
     |true=>
      have HF:Hid (tu (cs.take (k+1))=false):=lH (by rw[Hbt.out,Hfk.out,hno];rfl)
      go_wp2_with (go_at_call 37;refine(gU _ _ _ _).mono ?_;rintro e w2 ⟨rfl,rfl⟩)
      exact⟨⟨k+1,by omega,rfl,HF.out,trivial⟩,by simp[intOf];omega⟩
    ·have hke:cs.length<=k:=by have h:=HLn.out;omega
     have hb:tu cs=false:=by have h:=Hfk.out;rw[List.take_of_length_le hke] at h;exact h
     have HF:Hid (R= .tuple #[.bool F,.int .i64 0]):=lH (by rw[HR.out,hb];rfl);have H6:=lH (H66.out hb w1 HB1.out);clear hb hke;obtain⟨p0,p1,p2,p3⟩:=HP.out
     go_wp2_with fail
     refine H6.out.mono ?_;rintro e w2 ⟨rfl,hb2⟩;go_wp2
     go_ret2
     exact⟨by rw[HF.out]<;>rfl,HB1.out.trans (hb2.mono HB1.out.size)⟩
  ·have HR:Hid (fitsV B xs cs= .tuple #[.bool false,.int .i64 2]):=lH (by unfold fitsV;rw[if_pos hok,if_neg hlen]);rw[hok,h1] at HC;rw[h1];generalize fitsV B xs cs=R at *;obtain⟨ta,la,pa,tc,lc,pc⟩:=V;simp only[BkV.val] at *;have hne: ¬(cs.length:Int)=(B.pairs.length:Int):=by omega
   clear hs hx hc hok h0 h1 h2 hlen;go_enter Tryd.func24,Tryd.ntmps24
   go_wp2_with fail
   refine HC.out.mono ?_;rintro e w1 ⟨rfl,hb1⟩;have HB1:=lH (HB0.out.trans (hb1.mono (by simp)));obtain⟨p0,p1,p2,p3⟩:=HBox.out w1 (by simpa using hb1);clear hb1 HC HB0;go_wp2
   go_ret2
   exact⟨by rw[HR.out]<;>rfl,HB1.out⟩
 ·have HR:Hid (fitsV B xs cs= .tuple #[.bool false,.int .i64 (aH B xs true)]):=lH (by unfold fitsV;rw[if_neg hok]);generalize fitsV B xs cs=R at *;generalize aH B xs true=A at *;obtain⟨ta,la,pa,tc,lc,pc⟩:=V;simp only[BkV.val] at *;clear hs hx hc HBox;go_enter Tryd.func24,Tryd.ntmps24
  go_wp2_with fail
  refine HC.out.mono ?_;rintro e w1 ⟨rfl,hb1⟩;have HB1:=lH (HB0.out.trans (hb1.mono (by simp)));clear hb1 HC HB0;go_wp2
  go_ret2
  exact⟨by rw[HR.out]<;>rfl,HB1.out⟩
theorem c26 (V:BkV) (B:Bk) (xs:List Int) (xa:Option Addr) (xc:Nat) (w:World) (hs:aB w V B) (hz: ∀t∈B.towns,t.size<=1000000) (hx:SlI w xa xs) (hxl:xs.length<=1000000):
  Calls tP 26 #[V.val B,.slice xa xs.length xc] w fun e w'=>e= .returned (oK B xs)/\Below w.heap.size w w':=by
 have hb0:Below w.heap.size w (w.alloc (.cells #[.int .i64 B.hours,.slice V.ta B.towns.length V.tc,.slice V.la B.links.length V.lc,.slice V.pa B.pairs.length V.pc] 26)):=(bR _ _).alloc (nR _) _;have HC:=lH (c58 V B xs xa xc _ (hs.below hb0 (nR _)) hz (hx.below hb0 (nR _)) hxl);have HBox:Hid (∀u,_->_):=lH (fun u=>alv (w:=w) (u:=u) (V:=V) (B:=B));have HB0:=lH hb0;clear hb0 hz;by_cases hok:aH B xs true=0
 ·obtain⟨h0,h1,h2⟩:=nN hok;have hG:=gY h0;have hT0:=lZ h2;have hh:=hG.fine.hours;have hl:=hG.fine.links;have ht:=hG.fine.towns;have hib:=fun k j=>LW hG.fine (fun k=>(hT0 k).1) true k j;have hnp:=hG.fine.pairs;have hsp:B.spokes=B.towns.length-1:=rfl;have HE:Hid (oK B xs=iW B (trk xs) B.hours.toNat 0):=lH (by unfold oK;rw[if_pos hok]);have HC60:Hid (∀(k:Nat),(k:Int)<B.hours-> ∀u,Below w.heap.size w u->Calls tP 60 #[V.val B,.int .i64 (k:Int),.bool true] u _):=lH (fun k hk u hu=>alu V B hG true hs k hk u hu);have HC59:Hid (∀(k:Nat) ea ec u,Below w.heap.size w u->SlI u ea (aey B true k B.pairs.length)->Calls tP 59 #[V.val B,.slice xa B.links.length xc,.slice ea B.pairs.length ec] u _):=lH (fun k ea ec u hu he=>alx V B hG.fine true k hs.at xs xa xc hx h1 hT0 ea ec u hu he);have HHit:Hid (∀h i,h<B.hours.toNat->trk xs i<B.inn (trk xs) true h i->i<B.towns.length-1->(∀j,j<i->B.inn (trk xs) true h j<=trk xs j)->iW B (trk xs) (B.hours.toNat-h) h= .tuple #[.int .i64 (h:Int),.int .i64 (i:Int),.int .i64 (B.inn (trk xs) true h i-trk xs i),.int .i64 0]):=lH fun h i a b c d=>alZ a b (by rw[hsp];exact c) d;have HOn:Hid (∀h,h<B.hours.toNat->(∀j,j<B.towns.length-1->B.inn (trk xs) true h j<=trk xs j)->iW B (trk xs) (B.hours.toNat-h) h=iW B (trk xs) (B.hours.toNat-(h+1)) (h+1)):=lH fun h a b=>al0 a (by rw[hsp];exact b);have HX:Hid (∀u,Below w.heap.size w u-> ∀k,k<B.links.length-> ∃b o,xa=some ⟨b,o,none⟩/\u.cell? ⟨b,o+k,none⟩=some (.int .i64 (trk xs k))):=lH fun u hu k hk=>by
   obtain⟨b,o,e,h⟩:=(hx.below hu (nR _)) k _ (lG (show k<xs.length by omega));rw[afb (by omega)] at h;exact⟨b,o,e,h⟩
  rw[HE.out];rw[hok,h1] at HC;rw[h1];rw[hsp] at hl;have HH:=lH hh;have HL:=lH hl;have HT:=lH ht;have HP:=lH hnp;have HI:=lH hib;have HT0:=lH hT0;generalize hTd:trk xs=T at *;obtain⟨ta,la,pa,tc,lc,pc⟩:=V;simp only[BkV.val] at *;clear hs hx hxl hok h0 h1 h2 hG hT0 hh HE hl ht hsp hib hTd hnp;go_enter Tryd.func26,Tryd.ntmps26
  go_wp2_with fail
  refine HC.out.mono ?_;rintro e W ⟨rfl,hb1⟩;have HBW:=lH (HB0.out.trans (hb1.mono (by simp)));have HW:=lH (HBox.out W (by simpa using hb1));have HZ:Hid (w.heap.size<W.heap.size):=lH (wBk _ _ HW.out.1);clear hb1 HC HB0 HBox;obtain⟨p0,p1,p2,p3⟩:=HW.out
  go_wp2_with fail
  clear p0 p1 p2 p3
  go_loopw [9] (fun i wr=> ∃k:Nat,(k:Int)<=B.hours/\i= .int .i64 (k:Int)/\iW B T B.hours.toNat 0=iW B T (B.hours.toNat-k) k/\Below W.heap.size W wr) (fun i _=>B.hours.toNat-(intOf i).toNat)
  case atStart=>exact⟨0,by have:=HH.out;omega,rfl,rfl,bR _ _⟩
  case round=>
   obtain⟨k,hk,rfl,hfk,hb⟩:=hrel;have hh:=HH.out;have Hfk:=lH hfk;have Hb:=lH hb;clear hfk hb;have p0:=cell_below Hb.out HW.out.1 (nR _);by_cases hlt:(k:Int)<B.hours
   ·have hW:Below W.heap.size W wr.drew:=Hb.out.drew;have HC: ∀u,Below W.heap.size W u->u.cell? ⟨w.heap.size,0,none⟩=some (.int .i64 B.hours)/\u.cell? ⟨w.heap.size,1,none⟩=some (.slice ta B.towns.length tc)/\u.cell? ⟨w.heap.size,2,none⟩=some (.slice la B.links.length lc)/\u.cell? ⟨w.heap.size,3,none⟩=some (.slice pa B.pairs.length pc):=fun u hu=>⟨cell_below hu HW.out.1 (nR _),cell_below hu HW.out.2.1 (nR _),cell_below hu HW.out.2.2.1 (nR _),cell_below hu HW.out.2.2.2 (nR _)⟩;have H59:=HC59.out k;have hon:=HOn.out k (by omega);have hhit:=HHit.out k;have hi:=HI.out k;generalize B.inn T true k=f at *;have HOn1:=lH hon;have HHit1:=lH hhit;have HI1:=lH hi;clear hon hhit hi
    go_wp2_with fail
    refine aif 7 7 (fun u=>Below W.heap.size W u) (by kernel_rfl) ?_;refine ahN 0 (.agg #[.int .i64 B.hours,.slice ta B.towns.length tc,.slice la B.links.length lc,.slice pa B.pairs.length pc]) hW ?_ (hr:=fun u hu=>by obtain⟨c0,c1,c2,c3⟩:=HC u hu;go_simp);refine ahN 1 (.slice xa B.links.length xc) hW ?_ (hr:=fun u hu=>by go_simp);refine ahN 2 (.agg #[.int .i64 B.hours,.slice ta B.towns.length tc,.slice la B.links.length lc,.slice pa B.pairs.length pc]) hW ?_ (hr:=fun u hu=>by obtain⟨c0,c1,c2,c3⟩:=HC u hu;go_simp);refine ahN 3 (.int .i64 (k:Int)) hW ?_ (hr:=fun u hu=>by go_simp);refine ahQ 4 (h:= ?_);refine ahW (f:=60) (args:= #[.agg #[.int .i64 B.hours,.slice ta B.towns.length tc,.slice la B.links.length lc,.slice pa B.pairs.length pc],.int .i64 (k:Int),.bool true]) (w':=wr.drew) (by go_simp) ((HC60.out k hlt wr.drew (HBW.out.trans (hW.mono HBW.out.size))).mono ?_);rintro e u1 ⟨ea,ec,rfl,he,hb1⟩;have hs1:=hW.trans (hb1.mono hW.size);refine⟨_,rfl,fun _=>hs1, ?_⟩;refine ahQ 5 (h:= ?_);refine ahW (f:=59) (args:= #[.agg #[.int .i64 B.hours,.slice ta B.towns.length tc,.slice la B.links.length lc,.slice pa B.pairs.length pc],.slice xa B.links.length xc,.slice ea B.pairs.length ec]) (w':=u1) (by go_simp) ((H59 ea ec u1 (HBW.out.trans (hs1.mono HBW.out.size)) he).mono ?_);rintro e u2 ⟨g,rfl,hg,hcell,hb2⟩;have hs2:=hs1.trans (hb2.mono hs1.size);refine⟨_,rfl,fun _=>hs2, ?_⟩;refine ahN 6 (.slice (some ⟨g,0,none⟩) B.links.length B.links.length) hs2 ?_ (hr:=fun u hu=>by go_simp);refine ahZ ?_;go_simp;have hz2:=HZ.out;have hg2:g<u2.heap.size:=by
     have hl:=HL.out;have ht:=HT.out;exact wBk _ _ (hcell 0 (by omega))
    have HG:=lH hcell;have HS2:=lH hs2;clear hcell hs2 HC hW he hb2 hs1 hb1 hg p0
    go_wp2_with fail
    go_loopw [11] (fun i wr=> ∃j:Nat,j<=B.towns.length-1/\i= .int .i64 (j:Int)/\(∀i,i<j->f i<=T i)/\Below u2.heap.size u2 wr) (fun i _=>B.towns.length-(intOf i).toNat)
    case atStart=>exact⟨0,Nat.zero_le _,rfl,fun j h=>by omega,bR _ _⟩
    case round=>
     obtain⟨j,hj,rfl,hfj,hb⟩:=hrel;have Hfj:=lH hfj;have Hb3:=lH (HS2.out.trans (hb.mono HS2.out.size));have Hb4:=lH hb;clear hfj hb;have p0:=cell_below Hb3.out HW.out.1 (nR _);have p1:=cell_below Hb3.out HW.out.2.1 (nR _);have p2:=cell_below Hb3.out HW.out.2.2.1 (nR _);have p3:=cell_below Hb3.out HW.out.2.2.2 (nR _);have hl:=HL.out;have ht:=HT.out
     go_wp2_with fail
     refine(c73 B.hours ta B.towns.length tc la B.links.length lc pa B.pairs.length pc _ (by omega) (by omega)).mono ?_;rintro e w3 ⟨rfl,hb3⟩;have HB3:=lH (Hb3.out.trans (hb3.mono Hb3.out.size));have HB4:=lH (Hb4.out.trans (hb3.mono Hb4.out.size));clear hb3 p0 p1 p2 p3;by_cases hlj:j<B.towns.length-1
     ·have hlt2:(j:Int)<((B.towns.length-1 :Nat):Int):=by omega
      have hkl:(j:Int)<(B.links.length:Int):=by omega
      obtain⟨tb,tofs,rfl,t0⟩:=HX.out w3 (HBW.out.trans (HB3.out.mono HBW.out.size)) j (by omega);have g0:=cell_below HB4.out (HG.out j (by omega)) (nR _);have hhit:=HHit1.out j (by omega);have hij:=HI1.out j;have hn6:=HP.out;have htj:=HT0.out j;generalize hzz:f j=z at *;generalize hyy:T j=y at *;have HZ9:=lH hzz;have HY9:=lH hyy;have hhit:=lH hhit;clear hzz hyy;by_cases hgt:y<z
      ·have hR:=hhit.out hgt hlj Hfj.out;have HR:Hid (iW B T B.hours.toNat 0=_):=lH (Hfk.out.trans hR);have hwr:IntKind.wrap .i64 (z-y)=z-y:=IntWalk.i64_in _ (by omega);clear hR
       go_wp2_with fail
       refine aif 9 9 (fun u=>w3.drew=u) (by kernel_rfl) ?_;refine ahN 0 (.slice (some ⟨g,0,none⟩) B.links.length B.links.length) (show w3.drew=w3.drew from rfl) ?_ (hr:=fun u hu=>by subst hu;go_simp);refine ahN 1 (.int .i64 (j:Int)) (show w3.drew=w3.drew from rfl) ?_ (hr:=fun u hu=>by subst hu;go_simp);refine ahN 2 (.pointer (some ⟨g,j,none⟩)) (show w3.drew=w3.drew from rfl) ?_ (hr:=fun u hu=>by subst hu;go_simp);refine ahN 3 (.int .i64 z) (show w3.drew=w3.drew from rfl) ?_ (hr:=fun u hu=>by subst hu;go_simp);refine ahN 4 (.slice (some ⟨tb,tofs,none⟩) B.links.length xc) (show w3.drew=w3.drew from rfl) ?_ (hr:=fun u hu=>by subst hu;go_simp);refine ahN 5 (.int .i64 (j:Int)) (show w3.drew=w3.drew from rfl) ?_ (hr:=fun u hu=>by subst hu;go_simp);refine ahN 6 (.pointer (some ⟨tb,tofs+j,none⟩)) (show w3.drew=w3.drew from rfl) ?_ (hr:=fun u hu=>by subst hu;go_simp);refine ahN 7 (.int .i64 y) (show w3.drew=w3.drew from rfl) ?_ (hr:=fun u hu=>by subst hu;go_simp);refine ahN 8 (.bool true) (show w3.drew=w3.drew from rfl) ?_ (hr:=fun u hu=>by subst hu;go_simp);refine ahZ ?_;go_simp;have t1:=cell_below ((bR w3.heap.size w3).drew) t0 (nR _);have g1:=cell_below ((bR w3.heap.size w3).drew) g0 (nR _);have HB5:=lH HB3.out.drew;generalize w3.drew=w4 at *;clear t0 g0
       go_wp2_with fail
       refine aif 15 15 (fun u=>w4.drew=u) (by kernel_rfl) ?_;refine ahN 0 (.int .i64 (k:Int)) (show w4.drew=w4.drew from rfl) ?_ (hr:=fun u hu=>by go_simp);refine ahN 1 (.int .i64 (j:Int)) (show w4.drew=w4.drew from rfl) ?_ (hr:=fun u hu=>by go_simp);refine ahN 2 (.slice (some ⟨g,0,none⟩) B.links.length B.links.length) (show w4.drew=w4.drew from rfl) ?_ (hr:=fun u hu=>by go_simp);refine ahN 3 (.int .i64 (j:Int)) (show w4.drew=w4.drew from rfl) ?_ (hr:=fun u hu=>by go_simp);refine ahN 4 (.pointer (some ⟨g,j,none⟩)) (show w4.drew=w4.drew from rfl) ?_ (hr:=fun u hu=>by go_simp);refine ahN 5 (.int .i64 z) (show w4.drew=w4.drew from rfl) ?_ (hr:=fun u hu=>by subst hu;go_simp);refine ahN 6 (.slice (some ⟨tb,tofs,none⟩) B.links.length xc) (show w4.drew=w4.drew from rfl) ?_ (hr:=fun u hu=>by go_simp);refine ahN 7 (.int .i64 (j:Int)) (show w4.drew=w4.drew from rfl) ?_ (hr:=fun u hu=>by go_simp);refine ahN 8 (.pointer (some ⟨tb,tofs+j,none⟩)) (show w4.drew=w4.drew from rfl) ?_ (hr:=fun u hu=>by go_simp);refine ahN 9 (.int .i64 y) (show w4.drew=w4.drew from rfl) ?_ (hr:=fun u hu=>by subst hu;go_simp);refine ahN 10 (.int .i64 (z-y)) (show w4.drew=w4.drew from rfl) ?_ (hr:=fun u hu=>by go_simp);refine ahN 11 (.int .i64 (k:Int)) (show w4.drew=w4.drew from rfl) ?_ (hr:=fun u hu=>by go_simp);refine ahN 12 (.int .i64 (j:Int)) (show w4.drew=w4.drew from rfl) ?_ (hr:=fun u hu=>by go_simp);refine ahN 13 (.int .i64 (z-y)) (show w4.drew=w4.drew from rfl) ?_ (hr:=fun u hu=>by go_simp);refine ahN 14 (.int .i64 0) (show w4.drew=w4.drew from rfl) ?_ (hr:=fun u hu=>by go_simp);refine ahZ ?_;go_simp;go_wp2;refine bodyPost_ret (v:= .tuple #[.int .i64 (k:Int),.int .i64 (j:Int),.int .i64 (z-y),.int .i64 0]) (by simp[results,Tryd.results26,go_sem]) rfl ?_;exact⟨by rw[HR.out]<;>rfl,HBW.out.trans (HB5.out.drew.mono HBW.out.size)⟩
      ·have HN:Hid (∀i,i<j+1->f i<=T i):=lH fun i hi=>by
        by_cases e:i=j
        ·subst e;rw[HZ9.out,HY9.out];omega
        ·exact Hfj.out i (by omega)
       go_wp2_with fail
       refine aif 9 9 (fun u=>w3.drew=u) (by kernel_rfl) ?_;refine ahN 0 (.slice (some ⟨g,0,none⟩) B.links.length B.links.length) (show w3.drew=w3.drew from rfl) ?_ (hr:=fun u hu=>by subst hu;go_simp);refine ahN 1 (.int .i64 (j:Int)) (show w3.drew=w3.drew from rfl) ?_ (hr:=fun u hu=>by subst hu;go_simp);refine ahN 2 (.pointer (some ⟨g,j,none⟩)) (show w3.drew=w3.drew from rfl) ?_ (hr:=fun u hu=>by subst hu;go_simp);refine ahN 3 (.int .i64 z) (show w3.drew=w3.drew from rfl) ?_ (hr:=fun u hu=>by subst hu;go_simp);refine ahN 4 (.slice (some ⟨tb,tofs,none⟩) B.links.length xc) (show w3.drew=w3.drew from rfl) ?_ (hr:=fun u hu=>by subst hu;go_simp);refine ahN 5 (.int .i64 (j:Int)) (show w3.drew=w3.drew from rfl) ?_ (hr:=fun u hu=>by subst hu;go_simp);refine ahN 6 (.pointer (some ⟨tb,tofs+j,none⟩)) (show w3.drew=w3.drew from rfl) ?_ (hr:=fun u hu=>by subst hu;go_simp);refine ahN 7 (.int .i64 y) (show w3.drew=w3.drew from rfl) ?_ (hr:=fun u hu=>by subst hu;go_simp);refine ahN 8 (.bool false) (show w3.drew=w3.drew from rfl) ?_ (hr:=fun u hu=>by subst hu;go_simp);refine ahZ ?_;go_simp;go_wp2;go_roundw
       case rel=>exact⟨j+1,by omega,by go_num,HN.out,HB4.out.drew⟩
       case measure=>simp[intOf];omega
     ·have hlt2: ¬(j:Int)<((B.towns.length-1 :Nat):Int):=by omega
      have HE2:Hid (iW B T B.hours.toNat 0=iW B T (B.hours.toNat-(k+1)) (k+1)):=lH (Hfk.out.trans (HOn1.out fun i hi=>Hfj.out i (by omega)));go_wp2;go_roundw
      case rel=>exact⟨k+1,by omega,by go_num,HE2.out,HB3.out⟩
      case measure=>simp[intOf];omega
   ·have HR:Hid (iW B T B.hours.toNat 0= .tuple #[.int .i64 0,.int .i64 0,.int .i64 0,.int .i64 10]):=lH (by rw[Hfk.out,show B.hours.toNat-k=0 by omega];rfl);go_wp2;refine bodyPost_ret (v:= .tuple #[.int .i64 0,.int .i64 0,.int .i64 0,.int .i64 10]) (by simp[results,Tryd.results26,go_sem]) rfl ?_;exact⟨by rw[HR.out]<;>rfl,HBW.out.trans (Hb.out.mono HBW.out.size)⟩
 ·have HR:Hid (oK B xs= .tuple #[.int .i64 0,.int .i64 0,.int .i64 0,.int .i64 (aH B xs true)]):=lH (by unfold oK;rw[if_neg hok]);generalize oK B xs=R at *;generalize aH B xs true=A at *;obtain⟨ta,la,pa,tc,lc,pc⟩:=V;simp only[BkV.val] at *;clear hs hx HBox;go_enter Tryd.func26,Tryd.ntmps26
  go_wp2_with fail
  refine HC.out.mono ?_;rintro e w1 ⟨rfl,hb1⟩;have HB1:=lH (HB0.out.trans (hb1.mono (by simp)));clear hb1 HC HB0;go_wp2;refine bodyPost_ret (v:= .tuple #[.int .i64 0,.int .i64 0,.int .i64 0,.int .i64 A]) (by simp[results,Tryd.results26,go_sem]) rfl ?_;exact⟨by rw[HR.out]<;>rfl,HB1.out⟩
theorem LoR.congr {w:World} {la pa:Option Addr} {B:Bk} {lc pc:Nat} {hours towns:Value} {f g:Nat->Int} {wr:World} (h:LoR w la pa B lc pc hours towns f wr) (e: ∀j,j<B.links.length->f j=g j):LoR w la pa B lc pc hours towns g wr:=
 ⟨h.below,h.size,h.b0,h.b1,h.b2,h.b3,fun j hj=>by rw[<-e j hj];exact h.out j hj⟩
theorem c75 (V:BkV) (B:Bk) (hG:Good B) (xs:List Int) (xa:Option Addr) (xc:Nat) (w:World) (hs:aB w V B) (hx:SlI w xa xs) (hxl:xs.length=B.links.length) (hT0: ∀k,0<=trk xs k/\trk xs k<=20):
  Calls tP 75 #[V.val B,.slice xa B.links.length xc] w fun e w'=> ∃g,e= .returned (.slice (some ⟨g,0,none⟩) B.links.length B.links.length)/\w.heap.size<=g/\(∀j,j<B.links.length->w'.cell? ⟨g,j,none⟩=some (.int .i64 (aZ B (trk xs) j)))/\Below w.heap.size w w':=by
 have hh:=hG.fine.hours;have hl:=hG.fine.links;have hmk:=ZV B.links.length (by omega);have HC60:Hid (∀(k:Nat),(k:Int)<B.hours-> ∀u,Below w.heap.size w u->Calls tP 60 #[V.val B,.int .i64 (k:Int),.bool true] u _):=lH (fun k hk u hu=>alu V B hG true hs k hk u hu);have HC59:Hid (∀(k:Nat) ea ec u,Below w.heap.size w u->SlI u ea (aey B true k B.pairs.length)->Calls tP 59 #[V.val B,.slice xa B.links.length xc,.slice ea B.pairs.length ec] u _):=lH (fun k ea ec u hu he=>alx V B hG.fine true k hs.at xs xa xc hx hxl hT0 ea ec u hu he);have HPk:Hid (∀k j,bW B (trk xs) (k+1) j=max (bW B (trk xs) k j) (B.inn (trk xs) true k j)):=lH fun k j=>rfl;have HP0:Hid (bW B (trk xs) 0=fun _=>0):=lH (by funext j;rfl);have HPe:Hid (∀j,aZ B (trk xs) j=bW B (trk xs) B.hours.toNat j):=lH fun j=>rfl;generalize aZ B (trk xs)=PkV at *;generalize bW B (trk xs)=P at *;have HH:=lH hh;have HL:=lH hl;obtain⟨ta,la,pa,tc,lc,pc⟩:=V;simp only[BkV.val] at *;clear hs hx hxl hT0 hG hh hl;go_enter Tryd.func75,Tryd.ntmps75
 go_wp2_with fail
 go_loopw [6] (fun i wr=> ∃k:Nat,(k:Int)<=B.hours/\i= .int .i64 (k:Int)/\LoR w la pa B lc pc (.int .i64 B.hours) (.slice ta B.towns.length tc) (P k) wr) (fun i _=>B.hours.toNat-(intOf i).toNat)
 case atStart=>
  refine⟨0,by have:=HH.out;omega,rfl,⟨(((bR _ _).alloc (nR _) _).alloc (by simp) _),by simp,by go_simp,by go_simp,by go_simp,by go_simp,fun j hj=> ?_⟩⟩;exact⟨by go_simp;rw[HP0.out];exact alE hj,by go_simp⟩
 case round=>
  obtain⟨k,hk,rfl,hR⟩:=hrel;have hh:=HH.out;have HR:=lH hR;clear hR;have p0:=HR.out.b0;by_cases hlt:(k:Int)<B.hours
  ·have hW:Below wr.heap.size wr wr.drew:=(bR _ _).drew;have HC: ∀u,Below wr.heap.size wr u->u.cell? ⟨w.heap.size,0,none⟩=some (.int .i64 B.hours)/\u.cell? ⟨w.heap.size,1,none⟩=some (.slice ta B.towns.length tc)/\u.cell? ⟨w.heap.size,2,none⟩=some (.slice la B.links.length lc)/\u.cell? ⟨w.heap.size,3,none⟩=some (.slice pa B.pairs.length pc):=fun u hu=>⟨(HR.out.step hu).b0,(HR.out.step hu).b1,(HR.out.step hu).b2,(HR.out.step hu).b3⟩;have H59:=HC59.out k;have hpk:=HPk.out k;generalize B.inn (trk xs) true k=f at *;have HPk1:=lH hpk;clear hpk
   go_wp2_with fail
   refine aif 7 7 (fun u=>Below wr.heap.size wr u) (by kernel_rfl) ?_;refine ahN 0 (.agg #[.int .i64 B.hours,.slice ta B.towns.length tc,.slice la B.links.length lc,.slice pa B.pairs.length pc]) hW ?_ (hr:=fun u hu=>by obtain⟨c0,c1,c2,c3⟩:=HC u hu;go_simp);refine ahN 1 (.slice xa B.links.length xc) hW ?_ (hr:=fun u hu=>by go_simp);refine ahN 2 (.agg #[.int .i64 B.hours,.slice ta B.towns.length tc,.slice la B.links.length lc,.slice pa B.pairs.length pc]) hW ?_ (hr:=fun u hu=>by obtain⟨c0,c1,c2,c3⟩:=HC u hu;go_simp);refine ahN 3 (.int .i64 (k:Int)) hW ?_ (hr:=fun u hu=>by go_simp);refine ahQ 4 (h:= ?_);refine ahW (f:=60) (args:= #[.agg #[.int .i64 B.hours,.slice ta B.towns.length tc,.slice la B.links.length lc,.slice pa B.pairs.length pc],.int .i64 (k:Int),.bool true]) (w':=wr.drew) (by go_simp) ((HC60.out k hlt wr.drew (HR.out.below.trans (hW.mono HR.out.below.size))).mono ?_);rintro e u1 ⟨ea,ec,rfl,he,hb1⟩;have hs1:=hW.trans (hb1.mono hW.size);refine⟨_,rfl,fun _=>hs1, ?_⟩;refine ahQ 5 (h:= ?_);refine ahW (f:=59) (args:= #[.agg #[.int .i64 B.hours,.slice ta B.towns.length tc,.slice la B.links.length lc,.slice pa B.pairs.length pc],.slice xa B.links.length xc,.slice ea B.pairs.length ec]) (w':=u1) (by go_simp) ((H59 ea ec u1 (HR.out.below.trans (hs1.mono HR.out.below.size)) he).mono ?_);rintro e u2 ⟨g,rfl,hg,hcell,hb2⟩;have hs2:=hs1.trans (hb2.mono hs1.size);refine⟨_,rfl,fun _=>hs2, ?_⟩;refine ahN 6 (.slice (some ⟨g,0,none⟩) B.links.length B.links.length) hs2 ?_ (hr:=fun u hu=>by go_simp);refine ahZ ?_;go_simp;have HR2:=lH (HR.out.step hs2);have hgw:w.heap.size+1<g:=by have h1:=HR.out.size;have h2:=hs1.size;omega
   have HG:=lH hcell;have HGW:=lH hgw;clear hcell hs2 HC hW he hb2 hs1 hb1 hg p0 HR hgw
   go_wp2_with fail
   go_loopw [8] (fun i wr=> ∃j:Nat,j<=B.links.length/\i= .int .i64 (j:Int)/\LoR w la pa B lc pc (.int .i64 B.hours) (.slice ta B.towns.length tc) (fun m=>if m<j then P (k+1) m else P k m) wr/\ ∀m,m<B.links.length->wr.cell? ⟨g,m,none⟩=some (.int .i64 (f m))) (fun i _=>B.links.length-(intOf i).toNat)
   case atStart=>exact⟨0,Nat.zero_le _,rfl,HR2.out.congr (fun j _=>by rw[if_neg (by omega)]),HG.out⟩
   case round=>
    obtain⟨j,hj,rfl,hR,hcell⟩:=hrel;have HR:=lH hR;have HG3:=lH hcell;clear hR hcell;have hgw:=HGW.out;have hl:=HL.out;by_cases hlj:j<B.links.length
    ·have hlj2:(j:Int)<(B.links.length:Int):=by omega
     obtain⟨o1,o2⟩:=HR.out.out j hlj;rw[if_neg (Nat.lt_irrefl j)] at o1;have g1:=HG3.out j hlj;have hgz:=wBk _ _ g1;have hmx:=HPk1.out j;have HX:Hid (∀v,v=P (k+1) j-> ∀m,m<B.links.length->fup (fun m=>if m<j then P (k+1) m else P k m) j v m=if m<j+1 then P (k+1) m else P k m):=lH fun v hv m _=>by
      unfold fup;by_cases e:m=j
      ·subst e;rw[if_pos rfl,if_pos (by omega),hv]
      ·rw[if_neg e]
       show (if m<j then P (k+1) m else P k m)=_
       by_cases e2:m<j
       ·rw[if_pos e2,if_pos (by omega)]
       ·rw[if_neg e2,if_neg (by omega)]
     generalize hq:P (k+1) j=q at *;generalize P k j=y at *;generalize hf:f j=z at *;have hm:(if y<z then z else y)=q:=by rw[hmx];split<;>omega
     have HM:=lH hmx;clear hmx hf
     go_wp2_with fail
     refine ahn 12 12 (by kernel_rfl) ?_
     change LaB _ _ _ _ _ _ _ (World.drew wr)
     refine ag5 0 (.slice (some ⟨w.heap.size+1,0,none⟩) B.links.length B.links.length) ?_ (hr:=by go_simp);refine ag5 1 (.int .i64 (j:Int)) ?_ (hr:=by go_simp);refine ag5 2 (.slice (some ⟨w.heap.size+1,0,none⟩) B.links.length B.links.length) ?_ (hr:=by go_simp);refine ag5 3 (.int .i64 (j:Int)) ?_ (hr:=by go_simp);refine ag5 4 (.pointer (some ⟨w.heap.size+1,j,none⟩)) ?_ (hr:=by go_simp);refine ag5 5 (.int .i64 y) ?_ (hr:=by go_simp);refine ag5 6 (.slice (some ⟨g,0,none⟩) B.links.length B.links.length) ?_ (hr:=by go_simp);refine ag5 7 (.int .i64 (j:Int)) ?_ (hr:=by go_simp);refine ag5 8 (.pointer (some ⟨g,j,none⟩)) ?_ (hr:=by go_simp);refine ag5 9 (.int .i64 z) ?_ (hr:=by go_simp);refine ag5 10 (.int .i64 q) ?_ (hr:=by go_simp);refine ag5 11 (.pointer (some ⟨w.heap.size+1,j,none⟩)) ?_ (hr:=by go_simp);simp only[Act.put,List.setIfInBounds_toArray];refine⟨by kernel_rfl,by kernel_rfl,wpOp_step rfl fun K hK=> ?_⟩;go_simp;refine hK _ _ ?_;clear hK;have HR6:=lH ((HR.out.set j q).congr (HX.out q rfl)).drew;have HG6:Hid (∀m,m<B.links.length->(wr.setCell ⟨w.heap.size+1,j,none⟩ (.int .i64 q)).drew.cell? ⟨g,m,none⟩=some (.int .i64 (f m))):=lH fun m hm=>(World.cell?_setCell_far _ _ _ _ (show w.heap.size+1≠g by omega)).trans (HG3.out m hm);go_wp2;go_roundw
     case rel=>exact⟨j+1,by omega,by go_num,HR6.out,HG6.out⟩
     case measure=>simp[intOf];omega
    ·have hlj2: ¬(j:Int)<(B.links.length:Int):=by omega
     have HR7:=lH (HR.out.congr (g:=P (k+1)) (fun m hm=>by rw[if_pos (by omega)]));go_wp2;go_roundw
     case rel=>exact⟨k+1,by omega,by go_num,HR7.out⟩
     case measure=>simp[intOf];omega
  ·have hke:B.hours.toNat=k:=by omega
   have HF:Hid (∀j,j<B.links.length->wr.cell? ⟨w.heap.size+1,j,none⟩=some (.int .i64 (PkV j))):=lH fun j hj=>by rw[HPe.out,hke];exact(HR.out.out j hj).1
   go_wp2;go_ret;exact⟨w.heap.size+1,rfl,by omega,HF.out,HR.out.below⟩
def alm (B:Bk) (xs:List Int):List Int:=if aH B xs true=0 then (List.range xs.length).map (ig B (trk xs)) else []
theorem al3 (B:Bk) (T:Nat->Int) (n:Nat):kW B T n=ints ((List.range n).map (ig B T)):=by
 unfold kW ints;rw[List.map_map];rfl
def alr (w:World) (B:Bk) (xs:List Int) (e:Ending) (w':World):Prop:= ∃sa cap,e= .returned (.tuple #[.slice sa (alm B xs).length cap,.int .i64 (aH B xs true)])/\SlI w' sa (alm B xs)/\Below w.heap.size w w'
theorem alM {w w':World} {B:Bk} {xs:List Int} (hok:aH B xs true=0) {v:Value} (h:w'.ownsRow w.heap.size 3 1 v xs.length (kW B (trk xs) xs.length)) (hb:Below w.heap.size w w'):alr w B xs (.returned (.tuple #[v,.int .i64 0])) w':=by
 unfold alr alm;rw[hok,if_pos rfl];rw[al3] at h;obtain⟨sa,cap,e,hs⟩:=aeU (n:=xs.length) (by simp) h;subst e;exact⟨sa,cap,by simp,hs,hb⟩
theorem alN {w w':World} {B:Bk} {xs:List Int} (hok: ¬aH B xs true=0) (hb:Below w.heap.size w w'):alr w B xs (.returned (.tuple #[.slice none 0 0,.int .i64 (aH B xs true)])) w':=by
 unfold alr alm;rw[if_neg hok];exact⟨none,0,rfl,fun i x h=>by simp at h,hb⟩
theorem al4 {w w':World} {B:Bk} {xs:List Int} {e:Ending} (h:qP w B xs e w'):alr w B xs e w':=by
 unfold qP at h;by_cases hok:aH B xs true=0
 ·rw[if_pos hok] at h;obtain⟨v,rfl,ho,hb⟩:=h;exact alM hok ho hb
 ·rw[if_neg hok] at h;obtain⟨rfl,hb⟩:=h;exact alN hok hb
theorem c28 (V:BkV) (B:Bk) (xs:List Int) (xa:Option Addr) (xc:Nat) (w:World) (hs:aB w V B) (hz: ∀t∈B.towns,t.size<=1000000) (hx:SlI w xa xs) (hxl:xs.length<=1000000):
  Calls tP 28 #[V.val B,.slice xa xs.length xc] w (alr w B xs):=by
 have hb0:Below w.heap.size w (w.alloc (.cells #[.int .i64 B.hours,.slice V.ta B.towns.length V.tc,.slice V.la B.links.length V.lc,.slice V.pa B.pairs.length V.pc] 26)):=(bR _ _).alloc (nR _) _;have HC:=lH (c58 V B xs xa xc _ (hs.below hb0 (nR _)) hz (hx.below hb0 (nR _)) hxl);have HBox:Hid (∀u,_->_):=lH (fun u=>alv (w:=w) (u:=u) (V:=V) (B:=B));have HB0:=lH hb0;clear hb0 hz;by_cases hok:aH B xs true=0
 ·obtain⟨h0,h1,h2⟩:=nN hok;have hG:=gY h0;have hT0:=lZ h2;have HC75:Hid (∀u,Below w.heap.size w u->Calls tP 75 #[V.val B,.slice xa B.links.length xc] u _):=lH (fun u hu=>c75 V B hG xs xa xc u (hs.below hu (nR _)) (hx.below hu (nR _)) h1 hT0);have HX:Hid (∀u,Below w.heap.size w u-> ∀k,k<B.links.length-> ∃b o,xa=some ⟨b,o,none⟩/\u.cell? ⟨b,o+k,none⟩=some (.int .i64 (trk xs k))):=lH fun u hu k hk=>by
   obtain⟨b,o,e,h⟩:=(hx.below hu (nR _)) k _ (lG (show k<xs.length by omega));rw[afb (by omega)] at h;exact⟨b,o,e,h⟩
  have HEnd:Hid (∀v w',w'.ownsRow w.heap.size 3 1 v xs.length (kW B (trk xs) xs.length)->Below w.heap.size w w'->alr w B xs (.returned (.tuple #[v,.int .i64 0])) w'):=lH fun v w' a b=>alM hok a b;have hbd:=fun j=>Eu hG.fine (fun k=>(hT0 k).1) j B.hours.toNat;have HBd:Hid (∀j,0<=aZ B (trk xs) j/\aZ B (trk xs) j<=30):=lH hbd;have HSn:=lH (LX B (trk xs));have HSp:Hid (∀k,ig B (trk xs) k=max 0 (trk xs k-aZ B (trk xs) k)):=lH fun k=>rfl;have HL:=lH hG.fine.links;have HT0:=lH hT0;have HS0:Hid (kW B (trk xs) 0= []):=lH rfl;rw[hok,h1] at HC;rw[h1] at HEnd ⊢;generalize alr w B xs=Q at *;generalize kW B (trk xs)=ST at *;generalize ig B (trk xs)=SpA at *;generalize aZ B (trk xs)=P at *;generalize trk xs=T at *;obtain⟨ta,la,pa,tc,lc,pc⟩:=V;simp only[BkV.val] at *;clear hs hx hxl hok h0 h1 h2 hG hT0 hbd;obtain⟨i0,hi,hz0,hz1,hz2⟩:=info_parts info3;go_enter Tryd.func28,Tryd.ntmps28
  go_wp2_with fail
  refine HC.out.mono ?_;rintro e w1 ⟨rfl,hb1⟩;have HB1:=lH (HB0.out.trans (hb1.mono (by simp)));obtain⟨p0,p1,p2,p3⟩:=HBox.out w1 (by simpa using hb1);clear hb1 HC HB0 HBox
  go_wp2_with fail
  refine(HC75.out w1 HB1.out).mono ?_;rintro e W ⟨g,rfl,hg,hcell,hb2⟩;have HBW:=lH (HB1.out.trans (hb2.mono HB1.out.size));have HG:=lH hcell;clear hcell hb2 hg HB1 p0 p1 p2 p3 HC75
  go_wp2_with fail
  go_loopw [8,9] (fun v i wr=> ∃k:Nat,k<=B.links.length/\i= .int .i64 (k:Int)/\wr.ownsRow W.heap.size 3 1 v k (ST k)/\Below W.heap.size W wr) (fun _ i _=>B.links.length-(intOf i).toNat)
  case atStart=>exact⟨0,Nat.zero_le _,rfl,by rw[HS0.out];exact World.ownsRow_nil _ _ _ _,bR _ _⟩
  case round=>
   obtain⟨k,hk,rfl,hown,hb⟩:=hrel;have Hown:=lH hown;have Hb:=lH hb;clear hown hb;by_cases hlt:k<B.links.length
   ·have hlt2:(k:Int)<(B.links.length:Int):=by omega
    have hW:Below W.heap.size W wr.drew:=Hb.out.drew;have hl:=HL.out;obtain⟨tb,tofs,rfl,_⟩:=HX.out wr (HBW.out.trans (Hb.out.mono HBW.out.size)) k hlt;have HC: ∀u,Below W.heap.size W u->u.cell? ⟨tb,tofs+k,none⟩=some (.int .i64 (T k))/\u.cell? ⟨g,k,none⟩=some (.int .i64 (P k)):=fun u hu=>by
     obtain⟨b,o,e,h⟩:=HX.out u (HBW.out.trans (hu.mono HBW.out.size)) k hlt
     cases e
     exact⟨h,cell_below hu (HG.out k hlt) (nR _)⟩
    have hbk:=HBd.out k;have htk:=HT0.out k;have hsk:=HSp.out k;have HSn1:=lH (HSn.out k);generalize SpA k=s at *;generalize T k=t at *;generalize P k=p at *;have hwr:IntKind.wrap .i64 (t-p)=t-p:=IntWalk.i64_in _ (by omega);have hmx:(if p<t then t-p else 0)=s:=by rw[hsk];split<;>omega
    have HSk:=lH hsk;clear hsk
    go_wp2_with fail
    refine aif 14 14 (fun u=>Below W.heap.size W u) (by kernel_rfl) ?_;refine ahN 0 u8 hW ?_ (hr:=fun u hu=>by go_simp);refine ahN 1 (.slice (some ⟨tb,tofs,none⟩) B.links.length xc) hW ?_ (hr:=fun u hu=>by go_simp);refine ahN 2 (.int .i64 (k:Int)) hW ?_ (hr:=fun u hu=>by go_simp);refine ahN 3 (.pointer (some ⟨tb,tofs+k,none⟩)) hW ?_ (hr:=fun u hu=>by go_simp);refine ahN 4 (.int .i64 t) hW ?_ (hr:=fun u hu=>by obtain⟨c0,c1⟩:=HC u hu;go_simp);refine ahN 5 (.slice (some ⟨g,0,none⟩) B.links.length B.links.length) hW ?_ (hr:=fun u hu=>by go_simp);refine ahN 6 (.int .i64 (k:Int)) hW ?_ (hr:=fun u hu=>by go_simp);refine ahN 7 (.pointer (some ⟨g,k,none⟩)) hW ?_ (hr:=fun u hu=>by go_simp);refine ahN 8 (.int .i64 p) hW ?_ (hr:=fun u hu=>by obtain⟨c0,c1⟩:=HC u hu;go_simp);refine ahN 9 (.int .i64 (t-p)) hW ?_ (hr:=fun u hu=>by go_simp);refine ahN 10 (.int .i64 s) hW ?_ (hr:=fun u hu=>by go_simp);refine ahQ 11 (h:=ah0 (v:= .slice (some ⟨wr.drew.heap.size,0,none⟩) 1 1) (w':=wr.drew.alloc (.cells #[.int .i64 s] 3)) (by go_simp) ⟨fun _=>hW.alloc hW.size _, ?_⟩);have hnew: ∀(j:Nat) (u:Value),([.int .i64 s]:List Value)[j]? =some u->(wr.drew.alloc (.cells #[.int .i64 s] 3)).cell? ((⟨wr.drew.heap.size,0,none⟩:Addr).add j)=some u:=fun j u hj=>by
     match j,hj with
     | 0,hj=>cases hj;simp only[Addr.add];go_simp
    have hw8:=hW.alloc hW.size (.cells #[.int .i64 s] 3);have ho8:(wr.drew.alloc (.cells #[.int .i64 s] 3)).ownsRow W.heap.size 3 1 u8 k (ST k):=World.ownsRow.alloc (show wr.drew.ownsRow W.heap.size 3 1 u8 k (ST k) from Hown.out) _;generalize wr.drew.alloc (.cells #[.int .i64 s] 3)=w8 at *;simp only[Act.put,List.setIfInBounds_toArray,List.set,List.getElem_toArray,List.getElem_cons_zero,List.getElem_cons_succ];refine ahQ 12 (h:=aii (.tmp 25) (.tmp 36) 27 (by rfl) W.heap.size 3 i0 (.int .i64 0) 1 8 Tryd.underlying27 hi hz0 hz1 hz2 (by rfl) (by decide) _ _ _ (by rfl) ho8 ⟨wr.drew.heap.size,0,none⟩ 1 1 [.int .i64 s] (by rfl) (by rfl) hnew (by simp[Value.oneCell']) (by unfold maxLen;omega) (by omega) hw8.size fun v9 w9 ho hg9 _=> ?_);have hw9:Below W.heap.size W w9:=hw8.grown hg9 hw8.size (fun j hj=>(ho8.lt j hj).1);refine⟨fun _=>hw9, ?_⟩;simp only[Act.put,List.setIfInBounds_toArray,List.set,List.getElem_toArray,List.getElem_cons_zero,List.getElem_cons_succ];refine ahN 13 (v9) hw9 ?_ (hr:=fun u hu=>by go_simp);refine ahZ ?_;go_simp;go_wp2;go_roundw
    case rel=>exact⟨k+1,by omega,by go_num,by rw[HSn1.out];exact ho,hw9⟩
    case measure=>simp[intOf];omega
   ·have hke:B.links.length=k:=by omega
    have HF:=lH (HEnd.out _ wr (by rw[hke];exact Hown.out.base HBW.out.size) (HBW.out.trans (Hb.out.mono HBW.out.size)));have hlt2: ¬(k:Int)<(B.links.length:Int):=by omega
    go_wp2;exact HF.out
 ·have HEnd:Hid (∀w',Below w.heap.size w w'->alr w B xs (.returned (.tuple #[.slice none 0 0,.int .i64 (aH B xs true)])) w'):=lH fun w' b=>alN hok b;generalize alr w B xs=Q at *;generalize aH B xs true=A at *;obtain⟨ta,la,pa,tc,lc,pc⟩:=V;simp only[BkV.val] at *;clear hs hx HBox;go_enter Tryd.func28,Tryd.ntmps28
  go_wp2_with fail
  refine HC.out.mono ?_;rintro e w1 ⟨rfl,hb1⟩;have HB1:=lH (HB0.out.trans (hb1.mono (by simp)));clear hb1 HC HB0;go_wp2;exact HEnd.out _ HB1.out
end Go.Proofs.YtaikibfkggglgaaDoor
