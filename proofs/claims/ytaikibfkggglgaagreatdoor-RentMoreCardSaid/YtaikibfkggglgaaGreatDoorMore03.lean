/- A part of the proof of a law; no conditions of its own. -/
import Derived.Test.YtaikibfkggglgaaGreatDoorMore02
open Go.RowKit renaming Below→bX
open Go renaming World→wD
open Go.IntKind renaming i64→qi
open Go.Value renaming int→iN, slice→sL, pointer→pN
set_option maxRecDepth 100000
open Nat renaming le_refl→nR
open Go.Lib renaming hid→lH
open Go.RowKit.Below renaming refl→bR
open Go.Proofs.Tryz renaming prog→tP
open List renaming getElem?_eq_getElem→lG
open Go.World renaming block_lt_of_cell?→wBk
open Option.some renaming injEq→oI
open List renaming getD_eq_getElem?_getD→lD
set_option maxHeartbeats 4000000
namespace Go.Proofs.YtaikibfkggglgaaGreatDoor
open Go.RowKit Go.Rent Go.Tp Go.Conc
theorem LoR.congr {w:wD} {la pa:Option Addr} {B:Bk} {lc pc:Nat} {hours towns:Value} {f g:Nat->Int} {wr:wD} (h:LoR w la pa B lc pc hours towns f wr) (e: ∀j,j<B.links.length->f j=g j):LoR w la pa B lc pc hours towns g wr:=
 ⟨h.below,h.size,h.b0,h.b1,h.b2,h.b3,fun j hj=>by rw[<-e j hj];exact h.out j hj⟩
theorem c75 (V:BkV) (B:Bk) (hG:Good B) (xs:List Int) (xa:Option Addr) (xc:Nat) (w:wD) (hs:aB w V B) (hx:SlI w xa xs) (hxl:xs.length=B.links.length) (hT0: ∀k,0<=trk xs k/\trk xs k<=20):
  Calls tP 120 #[V.val B,sL xa B.links.length xc] w fun e w'=> ∃g,e= .returned (sL (some ⟨g,0,none⟩) B.links.length B.links.length)/\w.heap.size<=g/\(∀j,j<B.links.length->w'.cell? ⟨g,j,none⟩=some (iN qi (aZ B (trk xs) j)))/\bX w.heap.size w w':=by
 have hh:=hG.fine.hours;have hl:=hG.fine.links;have hmk:=ZV B.links.length (by omega);have HC60:Hid (∀(k:Nat),(k:Int)<B.hours-> ∀u,bX w.heap.size w u->Calls tP 100 #[V.val B,iN qi (k:Int),.bool true] u _):=lH (fun k hk u hu=>alu V B hG true hs k hk u hu);have HC59:Hid (∀(k:Nat) ea ec u,bX w.heap.size w u->SlI u ea (aey B true k B.pairs.length)->Calls tP 122 #[V.val B,sL xa B.links.length xc,sL ea B.pairs.length ec] u _):=lH (fun k ea ec u hu he=>alx V B hG.fine true k hs.at xs xa xc hx hxl hT0 ea ec u hu he);have HPk:Hid (∀k j,bW B (trk xs) (k+1) j=max (bW B (trk xs) k j) (B.inn (trk xs) true k j)):=lH fun k j=>rfl;have HP0:Hid (bW B (trk xs) 0=fun _=>0):=lH (by funext j;rfl);have HPe:Hid (∀j,aZ B (trk xs) j=bW B (trk xs) B.hours.toNat j):=lH fun j=>rfl;generalize aZ B (trk xs)=PkV at *;generalize bW B (trk xs)=P at *;have HH:=lH hh;have HL:=lH hl;obtain⟨ta,la,pa,tc,lc,pc⟩:=V;simp only[BkV.val] at *;clear hs hx hxl hT0 hG hh hl;go_enter Tryz.func120,Tryz.ntmps120
 go_wp2_with fail
 go_loopw [6] (fun i wr=> ∃k:Nat,(k:Int)<=B.hours/\i= iN qi (k:Int)/\LoR w la pa B lc pc (iN qi B.hours) (sL ta B.towns.length tc) (P k) wr) (fun i _=>B.hours.toNat-(intOf i).toNat)
 case atStart=>
  refine⟨0,by have:=HH.out;omega,rfl,⟨(((bR _ _).alloc (nR _) _).alloc (by simp) _),by simp,by go_simp,by go_simp,by go_simp,by go_simp,fun j hj=> ?_⟩⟩;exact⟨by go_simp;rw[HP0.out];exact alE hj,by go_simp⟩
 case round=>
  obtain⟨k,hk,rfl,hR⟩:=hrel;have hh:=HH.out;have HR:=lH hR;clear hR;have p0:=HR.out.b0;by_cases hlt:(k:Int)<B.hours
  ·have hW:bX wr.heap.size wr wr.drew:=(bR _ _).drew;have HC: ∀u,bX wr.heap.size wr u->u.cell? ⟨w.heap.size,0,none⟩=some (iN qi B.hours)/\u.cell? ⟨w.heap.size,1,none⟩=some (sL ta B.towns.length tc)/\u.cell? ⟨w.heap.size,2,none⟩=some (sL la B.links.length lc)/\u.cell? ⟨w.heap.size,3,none⟩=some (sL pa B.pairs.length pc):=fun u hu=>⟨(HR.out.step hu).b0,(HR.out.step hu).b1,(HR.out.step hu).b2,(HR.out.step hu).b3⟩;have H59:=HC59.out k;have hpk:=HPk.out k;generalize B.inn (trk xs) true k=f at *;have HPk1:=lH hpk;clear hpk
   go_wp2_with fail
   refine aif 7 7 (fun u=>bX wr.heap.size wr u) (by kernel_rfl) ?_;refine ahN 0 (.agg #[iN qi B.hours,sL ta B.towns.length tc,sL la B.links.length lc,sL pa B.pairs.length pc]) hW ?_ (hr:=fun u hu=>by obtain⟨c0,c1,c2,c3⟩:=HC u hu;go_simp);refine ahN 1 (sL xa B.links.length xc) hW ?_ (hr:=fun u hu=>by go_simp);refine ahN 2 (.agg #[iN qi B.hours,sL ta B.towns.length tc,sL la B.links.length lc,sL pa B.pairs.length pc]) hW ?_ (hr:=fun u hu=>by obtain⟨c0,c1,c2,c3⟩:=HC u hu;go_simp);refine ahN 3 (iN qi (k:Int)) hW ?_ (hr:=fun u hu=>by go_simp);refine ahQ 4 (h:= ?_);refine ahW (f:=100) (args:= #[.agg #[iN qi B.hours,sL ta B.towns.length tc,sL la B.links.length lc,sL pa B.pairs.length pc],iN qi (k:Int),.bool true]) (w':=wr.drew) (by go_simp) ((HC60.out k hlt wr.drew (HR.out.below.trans (hW.mono HR.out.below.size))).mono ?_);rintro e u1 ⟨ea,ec,rfl,he,hb1⟩;have hs1:=hW.trans (hb1.mono hW.size);refine⟨_,rfl,fun _=>hs1, ?_⟩;refine ahQ 5 (h:= ?_);refine ahW (f:=122) (args:= #[.agg #[iN qi B.hours,sL ta B.towns.length tc,sL la B.links.length lc,sL pa B.pairs.length pc],sL xa B.links.length xc,sL ea B.pairs.length ec]) (w':=u1) (by go_simp) ((H59 ea ec u1 (HR.out.below.trans (hs1.mono HR.out.below.size)) he).mono ?_);rintro e u2 ⟨g,rfl,hg,hcell,hb2⟩;have hs2:=hs1.trans (hb2.mono hs1.size);refine⟨_,rfl,fun _=>hs2, ?_⟩;refine ahN 6 (sL (some ⟨g,0,none⟩) B.links.length B.links.length) hs2 ?_ (hr:=fun u hu=>by go_simp);refine ahZ ?_;go_simp;have HR2:=lH (HR.out.step hs2);have hgw:w.heap.size+1<g:=by have h1:=HR.out.size;have h2:=hs1.size;omega
   have HG:=lH hcell;have HGW:=lH hgw;clear hcell hs2 HC hW he hb2 hs1 hb1 hg p0 HR hgw
   go_wp2_with fail
   go_loopw [8] (fun i wr=> ∃j:Nat,j<=B.links.length/\i= iN qi (j:Int)/\LoR w la pa B lc pc (iN qi B.hours) (sL ta B.towns.length tc) (fun m=>if m<j then P (k+1) m else P k m) wr/\ ∀m,m<B.links.length->wr.cell? ⟨g,m,none⟩=some (iN qi (f m))) (fun i _=>B.links.length-(intOf i).toNat)
   case atStart=>exact⟨0,Nat.zero_le _,rfl,HR2.out.congr (fun j _=>by rw[if_neg (by omega)]),HG.out⟩
   case round=>
    obtain⟨j,hj,rfl,hR,hcell⟩:=hrel;have HR:=lH hR;have HG3:=lH hcell;clear hR hcell;have hgw:=HGW.out;have hl:=HL.out;by_cases hlj:j<B.links.length
    ·have hlj2:(j:Int)<(B.links.length:Int):=by omega
     obtain⟨o1,o2⟩:=HR.out.out j hlj;rw[if_neg (Nat.lt_irrefl j)] at o1;have g1:=HG3.out j hlj;have hgz:=wBk _ _ g1;have hmx:=HPk1.out j;have HX:Hid (∀v,v=P (k+1) j-> ∀m,m<B.links.length->fup (fun m=>if m<j then P (k+1) m else P k m) j v m=if m<j+1 then P (k+1) m else P k m):=lH fun v hv m _=>by
      unfold fup;by_cases e:m=j
      ·subst e;rw[if_pos rfl,if_pos (by omega),hv]
      ·rw[if_neg e]
       show (if m<j then P (k+1) m else P k m)=_
       by_cases e2:m<j
       ·rw[if_pos e2,if_pos (by omega)]
       ·rw[if_neg e2,if_neg (by omega)]
     generalize hq:P (k+1) j=q at *;generalize P k j=y at *;generalize hf:f j=z at *;have hm:(if y<z then z else y)=q:=by rw[hmx];split<;>omega
     have HM:=lH hmx;clear hmx hf
     go_wp2_with fail
     refine ahn 12 12 (by kernel_rfl) ?_
     change LaB _ _ _ _ _ _ _ (World.drew wr)
     refine ag5 0 (sL (some ⟨w.heap.size+1,0,none⟩) B.links.length B.links.length) ?_ (hr:=by go_simp);refine ag5 1 (iN qi (j:Int)) ?_ (hr:=by go_simp);refine ag5 2 (sL (some ⟨w.heap.size+1,0,none⟩) B.links.length B.links.length) ?_ (hr:=by go_simp);refine ag5 3 (iN qi (j:Int)) ?_ (hr:=by go_simp);refine ag5 4 (pN (some ⟨w.heap.size+1,j,none⟩)) ?_ (hr:=by go_simp);refine ag5 5 (iN qi y) ?_ (hr:=by go_simp);refine ag5 6 (sL (some ⟨g,0,none⟩) B.links.length B.links.length) ?_ (hr:=by go_simp);refine ag5 7 (iN qi (j:Int)) ?_ (hr:=by go_simp);refine ag5 8 (pN (some ⟨g,j,none⟩)) ?_ (hr:=by go_simp);refine ag5 9 (iN qi z) ?_ (hr:=by go_simp);refine ag5 10 (iN qi q) ?_ (hr:=by go_simp);refine ag5 11 (pN (some ⟨w.heap.size+1,j,none⟩)) ?_ (hr:=by go_simp);simp only[Act.put,List.setIfInBounds_toArray];refine⟨by kernel_rfl,by kernel_rfl,wpOp_step rfl fun K hK=> ?_⟩;go_simp;refine hK _ _ ?_;clear hK;have HR6:=lH ((HR.out.set j q).congr (HX.out q rfl)).drew;have HG6:Hid (∀m,m<B.links.length->(wr.setCell ⟨w.heap.size+1,j,none⟩ (iN qi q)).drew.cell? ⟨g,m,none⟩=some (iN qi (f m))):=lH fun m hm=>(World.cell?_setCell_far _ _ _ _ (show w.heap.size+1≠g by omega)).trans (HG3.out m hm);go_wp2;go_roundw
     case rel=>exact⟨j+1,by omega,by go_num,HR6.out,HG6.out⟩
     case measure=>simp[intOf];omega
    ·have hlj2: ¬(j:Int)<(B.links.length:Int):=by omega
     have HR7:=lH (HR.out.congr (g:=P (k+1)) (fun m hm=>by rw[if_pos (by omega)]));go_wp2;go_roundw
     case rel=>exact⟨k+1,by omega,by go_num,HR7.out⟩
     case measure=>simp[intOf];omega
  ·have hke:B.hours.toNat=k:=by omega
   have HF:Hid (∀j,j<B.links.length->wr.cell? ⟨w.heap.size+1,j,none⟩=some (iN qi (PkV j))):=lH fun j hj=>by rw[HPe.out,hke];exact(HR.out.out j hj).1
   go_wp2;go_ret;exact⟨w.heap.size+1,rfl,by omega,HF.out,HR.out.below⟩
theorem anc (l m:List Int):ints (l++m)=ints l++ints m:=by unfold ints;rw[List.map_append]
theorem anr {w:wD} (k:Nat) (hk:k<=1000):(w.alloc (.cells (madeCells #[Value.int qi 0] k) 3)).ownsRow w.heap.size 3 1 (sL (some ⟨w.heap.size,0,none⟩) k k) k (ints (List.replicate k 0)):=by
 refine⟨by simp[ints],.inr ⟨w.heap.size,k,_,rfl,nR _,heap_alloc_new w _,nR _,by unfold maxLen;omega,by simp[size_madeCells], ?_⟩⟩;refine List.ext_getElem? fun j=> ?_;rw[Nat.mul_one,List.getElem?_take];unfold ints;rw[List.getElem?_map,List.getElem?_replicate];by_cases hj:j<k
 ·rw[if_pos hj,if_pos hj,Array.getElem?_toList,alE hj];rfl
 ·rw[if_neg hj,if_neg hj];rfl
theorem ant {B:Bk} {l:List Int}:ku B (amD B l)++l=jC B (amD B l):=by
 unfold jC amD;rw[List.drop_left' (by simp)]
theorem amZ {B:Bk} {l:List Int} (h: ∀i,0<=trk l i/\trk l i<=5) (k:Nat):0<=trk (amD B l) k/\trk (amD B l) k<=5:=by
 unfold amD trk;rw[lD];by_cases e:k<B.spokes
 ·rw[List.getElem?_append_left (by simpa using e),List.getElem?_replicate,if_pos e];simp
 ·rw[List.getElem?_append_right (by simpa using e)];have:=h (k-(List.replicate B.spokes (0 :Int)).length);unfold trk at this;rw[lD] at this;exact this
theorem amL {w u:wD} {V:BkV} {B:Bk} (h:bX (w.heap.size+1) (w.alloc (.cells #[iN qi B.hours,sL V.ta B.towns.length V.tc,sL V.la B.links.length V.lc,sL V.pa B.pairs.length V.pc] 26)) u):
  u.cell? ⟨w.heap.size,0,none⟩=some (iN qi B.hours)/\u.cell? ⟨w.heap.size,1,none⟩=some (sL V.ta B.towns.length V.tc)/\u.cell? ⟨w.heap.size,2,none⟩=some (sL V.la B.links.length V.lc)/\u.cell? ⟨w.heap.size,3,none⟩=some (sL V.pa B.pairs.length V.pc):=by
 obtain⟨hc,_⟩:=ak h;refine⟨?_, ?_, ?_, ?_⟩<;>(rw[hc _ _ (by omega)];go_simp)
theorem r94 (V:BkV) (B:Bk) (hG:Good B) (l:List Int) (hl:l.length=B.links.length-B.spokes) (h5: ∀i,0<=trk l i/\trk l i<=5) (ra:Option Addr) (rc:Nat) (w:wD) (hs:aB w V B) (hr:Rw w ra rc l):
  Calls tP 94 #[V.val B,sL ra l.length rc] w fun e w'=> ∃v,e= .returned v/\w'.ownsRow w.heap.size 3 1 v B.links.length (ints (jC B (amD B l)))/\bX w.heap.size w w':=by
 have hll:=hG.fine.links;have htt:=hG.fine.towns;have hsp:B.spokes=B.towns.length-1:=rfl;have hwl:(amD B l).length=B.links.length:=by unfold amD;simp;omega
 have HMk:=lH (ZV (B.towns.length-1) (by omega));have HOm:Hid (∀u:wD,(u.alloc (.cells (madeCells #[Value.int qi 0] (B.towns.length-1)) 3)).ownsRow u.heap.size 3 1 (sL (some ⟨u.heap.size,0,none⟩) (B.towns.length-1) (B.towns.length-1)) (B.towns.length-1) (ints (List.replicate (B.towns.length-1) 0))):=lH fun u=>anr _ (by omega);have HPk:Hid (∀(xa:Option Addr) (xc:Nat) (u:wD),bX w.heap.size w u->SlI u xa (amD B l)->Calls tP 120 #[V.val B,sL xa B.links.length xc] u _):=lH fun xa xc u hu hx=>c75 V B hG (amD B l) xa xc u (hs.below hu (nR _)) hx hwl (fun k=>by have:=amZ h5 (B:=B) k;omega);have HW:Hid (amD B l=List.replicate (B.towns.length-1) 0++l):=lH rfl;have HHub:Hid (∀j,j<B.towns.length-1->(ku B (amD B l))[j]? =some (aZ B (trk (amD B l)) j)):=lH fun j hj=>by unfold ku;rw[List.getElem?_map,List.getElem?_range (by rw[hsp];exact hj)];rfl
 have HHl:Hid ((ku B (amD B l)).length=B.towns.length-1):=lH (by unfold ku;simp;rfl);have HF:Hid (ints (jC B (amD B l))=ints (ku B (amD B l))++ints l):=lH (by rw[<-ant,anc]);rw[HF.out];have HR:=lH hr;have hll2:(B.towns.length-1)+l.length=B.links.length:=by omega
 have ht1:1<=B.towns.length/\B.towns.length<=4:=by omega
 have hl6:B.links.length<=6:=hll.2;generalize ku B (amD B l)=hub at *;generalize aZ B (trk (amD B l))=P at *;generalize amD B l=W at *;have HLs:=lH hll2;have hln:l.length<=6:=by omega
 obtain⟨ta,la,pa,tc,lc,pc⟩:=V;simp only[BkV.val] at *;clear hG hs hr hl h5 hll htt hsp hwl HF hll2;obtain⟨i0,hi,hz0,hz1i,hz2⟩:=info_parts info3;go_enter Tryz.func94,Tryz.ntmps94;have hmk:=HMk.out
 go_wp2_with fail
 refine(c73 B.hours ta B.towns.length tc la B.links.length lc pa B.pairs.length pc _ ht1.1 (by omega)).mono ?_;rintro e w1 ⟨rfl,hb1⟩;have HB1:Hid (bX w.heap.size w w1):=lH (((bR _ _).alloc (nR _) _).trans (hb1.mono (by simp)));have HX1:=lH (amL (V:=⟨ta,la,pa,tc,lc,pc⟩) (by simpa using hb1));have HO1:=lH (HOm.out w1);have HBa:Hid (bX w1.heap.size w1 (w1.alloc (.cells (madeCells #[Value.int qi 0] (B.towns.length-1)) 3))):=lH ((bR _ _).alloc (nR _) _);have HR1:=lH (HR.out.keep (Kp.below (HB1.out.trans (HBa.out.mono HB1.out.size))));clear hb1
 go_wp2_with (at_builtin;refine amW rfl _ _ rfl rfl HO1.out HBa.out rfl HR1.out (by omega) (by omega) ?_)
 intro v2 w2 ho2 hb2 _;have hrow:w2.ownsRow w1.heap.size 3 1 v2 B.links.length (ints W):=by rw[HW.out,anc,<-HLs.out];exact ho2
 obtain⟨a2,c2,rfl,hsl⟩:=aeU (by rw[HW.out,<-HLs.out];simp) hrow;have HB2:=lH (HB1.out.trans (hb2.mono HB1.out.size));have HC:=lH (HPk.out a2 c2 w2 HB2.out hsl);obtain⟨x0,x1,x2,x3⟩:=HX1.out;have hz1:=wBk _ _ x0;have y0:=aoF hb2 x0 (nR _);have y1:=aoF hb2 x1 (nR _);have y2:=aoF hb2 x2 (nR _);have y3:=aoF hb2 x3 (nR _);clear ho2 hb2 hrow hsl x0 x1 x2 x3
 go_wp2_with fail
 refine HC.out.mono ?_;rintro e w3 ⟨g,rfl,hg,hcell,hb3⟩;have HB3:=lH (HB2.out.trans (hb3.mono HB2.out.size));have z0:=aoF hb3 y0 (nR _);have z1:=aoF hb3 y1 (nR _);have z2:=aoF hb3 y2 (nR _);have z3:=aoF hb3 y3 (nR _);have hzw:=wBk _ _ z0;have HG:=lH hcell;clear hcell hb3 y0 y1 y2 y3 hg
 go_wp2_with fail
 refine(c73 B.hours ta B.towns.length tc la B.links.length lc pa B.pairs.length pc _ ht1.1 (by omega)).mono ?_;rintro e w4 ⟨rfl,hb4⟩;have HB4:Hid (bX w3.heap.size w3 w4):=lH (((bR _ _).alloc (nR _) _).trans (hb4.mono (by simp)));have HO4:Hid (w4.ownsRow w3.heap.size 3 1 (sL (some ⟨w3.heap.size,0,none⟩) 0 0) 0 []):=lH (anb (World.ownsRow_made w3 #[] 0 (nR _) (by decide) rfl) hb4);have hle:((B.towns.length-1 :Nat):Int)<=(B.links.length:Int):=by have:=HLs.out;omega
 have HN:Hid (∀(j:Nat) (u:Value),(ints hub)[j]? =some u->w4.cell? ((⟨g,0,none⟩:Addr).add j)=some u):=lH fun j u hj=>by
  have hjl:=(List.getElem?_eq_some_iff.1 hj).1;have hjn:j<B.towns.length-1:=by have:=HHl.out;unfold ints at hjl;rw[List.length_map,this] at hjl;exact hjl
  unfold ints at hj;rw[List.getElem?_map,HHub.out j hjn] at hj
  cases hj
  rw[Bz,Nat.zero_add];exact aoF HB4.out (HG.out j (by have:=HLs.out;omega)) (nR _)
 have HNl:Hid ((ints hub).length=(B.towns.length-1)*1):=lH (by unfold ints;rw[List.length_map,HHl.out,Nat.mul_one]);clear hb4 z0 z1 z2 z3
 go_wp2_with (at_builtin;refine wpList_append_own _ rfl _ _ 33 rfl w3.heap.size 3 i0 (iN qi 0) 1 8 Tryz.underlying33 hi hz0 hz1i hz2 rfl (by decide) _ _ _ rfl HO4.out ⟨g,0,none⟩ (B.towns.length-1) B.links.length (ints hub) rfl HNl.out HN.out EF (by unfold maxLen;omega) (by omega) HB4.out.size ?_)
 intro v5 w5 ho5 hg5 _;have HB5:=lH (HB4.out.grown hg5 HB4.out.size (fun j hj=>(HO4.out.lt j hj).1));have HO5:Hid (w5.ownsRow w3.heap.size 3 1 v5 (B.towns.length-1) (ints hub)):=lH (by simpa using ho5);have HR5:=lH (HR.out.keep (Kp.below (HB3.out.trans (HB5.out.mono HB3.out.size))));clear ho5 hg5
 go_wp2_with (at_builtin;refine amW rfl _ _ rfl rfl HO5.out HB5.out rfl HR5.out (by omega) (by omega) ?_)
 intro v6 w6 ho6 hb6 _;rw[HLs.out] at ho6;have HO6:=lH (ho6.base HB3.out.size);have HB6:=lH (HB3.out.trans (hb6.mono HB3.out.size));clear ho6 hb6;go_wp2;go_ret;exact⟨v6,rfl,HO6.out,HB6.out⟩
theorem ad2 (a b:Int) (x y:List Int):cmpL (a::x) (b::y)<0↔a<b\/a=b/\cmpL x y<0:=by
 simp only[cmpL,mF];by_cases h1:a<b
 ·simp[h1]
 ·by_cases h2:b<a
  ·have:a≠b:=by omega
   simp[h1,h2,this]
  ·have:a=b:=by omega
   simp[this]
theorem adM: ∀(x y z:List Int),cmpL x y<0->cmpL y z<0->cmpL x z<0
 |_,[],[],_,h=>by simp[cmpL] at h
 |_,_::_,[],_,h=>by simp[cmpL] at h
 | [],[],_::_,h,_=>by simp[cmpL] at h
 |_::_,[],_::_,h,_=>by simp[cmpL] at h
 | [],_::_,_::_,_,_=>by simp[cmpL]
 |a::x,b::y,c::z,h1,h2=>by
  rw[ad2] at *
  rcases h1 with h1 |⟨h1,k1⟩
  ·rcases h2 with h2 |⟨h2,k2⟩
   ·exact .inl (by omega)
   ·exact .inl (by omega)
  ·rcases h2 with h2 |⟨h2,k2⟩
   ·exact .inl (by omega)
   ·exact .inr ⟨by omega,adM x y z k1 k2⟩
theorem adN: ∀l:List Int,cmpL l l=0
 | []=>rfl
 |a::l=>by simp[cmpL,mF,adN l]
theorem ady {x y z:List Int×Int} (h1:qR x y<0) (h2:qR y z<0):qR x z<0:=by
 unfold qR at *;have:=adM x.1 y.1 z.1
 split at h1<;>split at h2<;>split
 all_goals first |exact this h1 h2 |omega
theorem adB (x:List Int×Int): ¬qR x x<0:=by
 unfold qR;rw[if_pos rfl,adN];omega
theorem adH: ∀(l:List (List Int×Int)) (c b:List Int×Int),l.foldl least1 (some c)=some b->(b=c\/(qR b c<0/\b∈l))/\ ∀x∈l,¬qR x b<0
 | [],c,b,h=>⟨.inl (by simpa using h.symm),fun x hx=>(by cases hx)⟩
 |y::l,c,b,h=>by
  rw[List.foldl_cons] at h;unfold least1 at h;dsimp only at h;by_cases hc:qR y c<0
  ·rw[if_pos hc] at h;obtain⟨h1,h2⟩:=adH l y b h
   rcases h1 with e |⟨e,hm⟩
   ·subst e;refine⟨.inr ⟨hc,List.mem_cons_self ..⟩,fun x hx=> ?_⟩
    rcases List.mem_cons.1 hx with e |e
    ·subst e;exact adB _
    ·exact h2 x e
   ·refine⟨.inr ⟨ady e hc,List.mem_cons_of_mem _ hm⟩,fun x hx=> ?_⟩
    rcases List.mem_cons.1 hx with e2 |e2
    ·subst e2;exact fun h=>adB _ (ady h e)
    ·exact h2 x e2
  ·rw[if_neg hc] at h;obtain⟨h1,h2⟩:=adH l c b h;refine⟨h1.imp id fun⟨a,b⟩=>⟨a,List.mem_cons_of_mem _ b⟩,fun x hx=> ?_⟩
   rcases List.mem_cons.1 hx with e2 |e2
   ·subst e2
    rcases h1 with e |⟨e,_⟩
    ·subst e;exact hc
    ·exact fun h=>hc (ady h e)
   ·exact h2 x e2
theorem ad3: ∀{l:List (List Int×Int)} {b:List Int×Int},iC l=some b->b∈l/\ ∀x∈l,¬qR x b<0
 | [],b,h=>by cases h
 |y::l,b,h=>by
  obtain⟨h1,h2⟩:=adH l y b h
  rcases h1 with e |⟨e,hm⟩
  ·subst e;refine⟨List.mem_cons_self .., fun x hx=> ?_⟩
   rcases List.mem_cons.1 hx with e |e
   ·subst e;exact adB _
   ·exact h2 x e
  ·refine⟨List.mem_cons_of_mem _ hm,fun x hx=> ?_⟩
   rcases List.mem_cons.1 hx with e2 |e2
   ·subst e2;exact fun h=>adB _ (ady h e)
   ·exact h2 x e2
theorem adC (may:Int->Bool): ∀(m:Nat) (t x:List Int),x∈moreL may m t↔ ∃d:List Int,x=t++d/\d.length=m/\ ∀(i:Nat) (y:Int),d[i]? =some y->0<=y/\y<=iY may (t.length+i)
 | 0,t,x=>by
  unfold moreL;rw[List.mem_singleton];refine⟨fun h=>⟨[],by simpa using h,rfl,fun i y h=>by simp at h⟩,fun⟨d,h1,h2,_⟩=> ?_⟩;rw[h1,List.length_eq_zero_iff.1 h2,List.append_nil]
 |m+1,t,x=>by
  unfold moreL;rw[List.mem_flatMap];constructor
  ·rintro⟨n,hn,hx⟩;obtain⟨d,h1,h2,h3⟩:=(adC may m _ x).1 hx;refine⟨(n:Int)::d,by rw[h1];simp,by simp[h2],fun i y hy=> ?_⟩
   cases i with
   |zero=>
    have:=List.mem_range.1 hn;simp at hy;simp only[Nat.add_zero];omega
   |succ i=>
    have:=h3 i y (by simpa using hy);rwa [List.length_append,List.length_singleton,Nat.add_assoc,Nat.add_comm 1 i] at this
  ·rintro⟨d,h1,h2,h3⟩
   cases d with
   |nil=>cases h2
   |cons a d=>
    have h0:=h3 0 a rfl;rw[Nat.add_zero] at h0;refine⟨a.toNat,List.mem_range.2 (by omega),(adC may m _ x).2 ⟨d, ?_,by simpa using h2,fun i y hy=> ?_⟩⟩
    ·rw[h1,Int.toNat_of_nonneg h0.1];simp
    ·have:=h3 (i+1) y (by simpa using hy);rwa [List.length_append,List.length_singleton,Nat.add_assoc,Nat.add_comm 1 i]
theorem adO (B:Bk) (may:Int->Bool):aC B may∈oP B may/\ ∀x∈oP B may,¬qR x (aC B may)<0:=by
 have hne:oP B may≠ []:=by
  unfold oP;intro h;exact MP may _ _ (List.map_eq_nil_iff.1 h)
 obtain⟨b,hb⟩:=ZH _ hne;have:aC B may=b:=by unfold aC;rw[hb];rfl
 rw[this];exact ad3 hb
theorem aer {x y:List Int×Int} (h: ¬qR x y<0):y.2<=x.2:=by
 unfold qR at h
 split at h<;>omega
def Dir (B:Bk) (may:Int->Bool) (t:List Int):Prop:=t∈moreL may (B.links.length-B.spokes) (List.replicate B.spokes 0)
theorem ad4 {B:Bk} (hl:B.spokes<=B.links.length) {may:Int->Bool} {t:List Int} (h:Dir B may t):t.length=B.links.length/\(∀x∈t,0<=x/\x<=5)/\(∀k,k<B.spokes->trk t k=0)/\ ∀k,B.spokes<=k->trk t k<=iY may k:=by
 obtain⟨d,h1,h2,h3⟩:=(adC may _ _ t).1 h;have htop: ∀k,iY may k<=5:=fun k=>by unfold iY;split<;>omega
 refine⟨by rw[h1,List.length_append,List.length_replicate,h2];omega,fun x hx=> ?_,fun k hk=> ?_,fun k hk=> ?_⟩
 ·rw[h1] at hx
  rcases List.mem_append.1 hx with e |e
  ·rw[(List.mem_replicate.1 e).2];omega
  ·obtain⟨i,hi,rfl⟩:=List.getElem_of_mem e;have:=h3 i _ (lG hi);have:=htop ((List.replicate B.spokes (0 :Int)).length+i);omega
 ·unfold trk;rw[h1,lD,List.getElem?_append_left (by simpa using hk),List.getElem?_replicate,if_pos hk];rfl
 ·unfold trk;rw[h1,lD,List.getElem?_append_right (by simpa using hk),List.length_replicate]
  cases e:d[k-B.spokes]? with
  |none=>simp
  |some y=>
   have:=h3 _ y e;rw[List.length_replicate,show B.spokes+(k-B.spokes)=k by omega] at this;exact this.2
theorem adP {B:Bk} {may:Int->Bool} {x:List Int×Int}:x∈oP B may↔ ∃t,Dir B may t/\iy B t=x:=List.mem_map
theorem adD {B:Bk} {t:List Int} (k:Nat):trk (jC B t) k=if k<B.spokes then aZ B (trk t) k else trk t k:=by
 unfold jC trk;rw[lD];by_cases h:k<B.spokes
 ·rw[if_pos h,List.getElem?_append_left (by rw[EM];exact h)];unfold ku;rw[List.getElem?_map,List.getElem?_range h];rfl
 ·rw[if_neg h,List.getElem?_append_right (by rw[EM];omega),EM,List.getElem?_drop,lD,show B.spokes+(k-B.spokes)=k by omega]
theorem adQ {B:Bk} (hB:B.Fine) {T T':Nat->Int} (h: ∀k,B.spokes<=k->k<B.links.length->min 5 (T' k)=min 5 (T k)) (most:Bool) (hr:Nat):B.inn T' most hr=B.inn T most hr:=by
 refine BN B T T' _ (fun i hi h0 hk=> ?_) _ (nR _);have hd:=pF B hB (B.pone i) (B.ptwo i);have hc:=Gj B hB most hr i;have:=h (B.direct (B.pone i) (B.ptwo i)).toNat (by omega) (by omega);omega
theorem ad5 {B:Bk} (hB:B.Fine) {T T':Nat->Int} (h: ∀k,B.spokes<=k->k<B.links.length->min 5 (T' k)=min 5 (T k)) (j:Nat):aZ B T' j=aZ B T j:=
 FY B j _ fun _ _=>congrFun (adQ hB h true _) j
theorem ad6 {B:Bk} (hB:B.Fine) {t:List Int}:aQ B (trk (jC B t)) B.hours.toNat 0 1=1:=by
 rw[Og];have hs: ∀m h,B.inn (trk (jC B t)) m h=B.inn (trk t) m h:=fun m h=>adQ hB (fun k h1 h2=>by rw[adD,if_neg (by omega)]) m h;refine⟨rfl,fun h _ hh=> ?_⟩;have key: ∀m,B.lackIn (trk (jC B t)) m h<0:=fun m=>by
  rw[vC,hs];intro j hj;rw[adD,if_pos hj];have h1:=BO B (trk t) j _ h (show h<B.hours.toNat by omega);have h2:=Oq hB (trk t) m h hj;unfold aZ;omega
 exact⟨key false,key true⟩
theorem adI: ∀(x y:List Int),x.length=y.length->(∀k,trk x k<=trk y k)->cmpL x y<=0/\(x≠y->cmpL x y<0)
 | [],[],_,_=>⟨by simp[cmpL],fun h=>absurd rfl h⟩
 | [],_::_,h,_=>by cases h
 |_::_,[],h,_=>by cases h
 |a::x,b::y,h,hk=>by
  have h0:a<=b:=hk 0;obtain⟨h1,h2⟩:=adI x y (by simpa using h) fun k=>hk (k+1);simp only[cmpL,mF];by_cases e:a<b
  ·simp[e]
  ·have e2:a=b:=by omega
   subst e2;simp only[Int.lt_irrefl,if_false,if_true,List.cons.injEq,true_and,ne_eq];exact⟨h1,h2⟩
def tried (B:Bk) (xs:List Int):List Int:=List.replicate B.spokes 0++(xs.drop B.spokes).map fun y=>min 5 y
theorem adR {B:Bk} {xs:List Int} (k:Nat):trk (tried B xs) k=if k<B.spokes then 0 else min 5 (trk xs k):=by
 unfold tried trk;rw[lD,lD];by_cases h:k<B.spokes
 ·rw[if_pos h,List.getElem?_append_left (by simpa using h),List.getElem?_replicate,if_pos h];rfl
 ·rw[if_neg h,List.getElem?_append_right (by simpa using h),List.length_replicate,List.getElem?_map,List.getElem?_drop,show B.spokes+(k-B.spokes)=k by omega]
  cases xs[k]? with
  |none=>rfl
  |some y=>rfl
theorem ad7 {B:Bk} {xs:List Int} (hx:xs.length=B.links.length) (hb:dN xs=false) {may:Int->Bool} (hm: ∀k,B.spokes<=k->may (k:Int)=false->trk xs k=0):Dir B may (tried B xs):=by
 refine(adC may _ _ _).2 ⟨_,rfl,by rw[List.length_map,List.length_drop,hx],fun i y hy=> ?_⟩;rw[List.getElem?_map,List.getElem?_drop] at hy;rw[List.length_replicate];have hp:=lZ hb (B.spokes+i);have hm':=hm (B.spokes+i) (by omega);have e:trk xs (B.spokes+i)=(xs[B.spokes+i]?).getD 0:=by unfold trk;rw[lD]
 rw[e] at hp hm'
 cases e2:xs[B.spokes+i]? with
 |none=>rw[e2] at hy;cases hy
 |some z=>
  rw[e2] at hy hp hm';simp only[Option.map_some,oI,Option.getD_some] at hy hp hm';subst hy;unfold iY
  split
  ·omega
  ·rename_i hf;have:=hm' (Bool.eq_false_iff.2 hf);omega
def adt (B:Bk) (xs:List Int):Int:=fZ B (trk xs) B.links.length
theorem adJ {B:Bk} (hl:B.spokes<=B.links.length) {t:List Int} (ht:t.length=B.links.length):(iy B t).2=adt B (jC B t):=by
 unfold iy adt;dsimp only;rw[MS ht hl]
theorem ad8 {B:Bk} (hB:B.Fine) {xs:List Int} (hx:xs.length=B.links.length) (hb:dN xs=false) (hc:aQ B (trk xs) B.hours.toNat 0 1=1) (k:Nat):trk (jC B (tried B xs)) k<=trk xs k:=by
 have htl:(tried B xs).length=B.links.length:=by
  unfold tried;rw[List.length_append,List.length_replicate,List.length_map,List.length_drop,hx];have:=hB.links.1;omega
 rw[adD];have hp:=lZ hb k;by_cases h:k<B.spokes
 ·rw[if_pos h,ad5 hB (T:=trk xs) fun k h1 _=>by rw[adR,if_neg (by omega)];omega];rw[Og] at hc;exact FW B (trk xs) k hp.1 _ fun h' hh=>(vC B (trk xs) true h').1 (hc.2 h' (Nat.zero_le _) (by omega)).2 k h
 ·rw[if_neg h,adR,if_neg h];omega
theorem ad9 {B:Bk} (hB:B.Fine) {xs:List Int} (hx:xs.length=B.links.length):(tried B xs).length=B.links.length:=by
 unfold tried;rw[List.length_append,List.length_replicate,List.length_map,List.length_drop,hx];have:=hB.links.1;omega
theorem adS {B:Bk} (hG:Good B) {may:Int->Bool} {xs:List Int} (hx:xs.length=B.links.length) (hb:dN xs=false) (hm: ∀k,B.spokes<=k->may (k:Int)=false->trk xs k=0) (hc:aQ B (trk xs) B.hours.toNat 0 1=1): ¬qR (xs,adt B xs) (aC B may)<0:=by
 have hB:=hG.fine;have hd:=ad7 hx hb hm;have htl:=ad9 hB hx;have hle:=ad8 hB hx hb hc;have hmin:=(adO B may).2 _ (adP.2 ⟨_,hd,rfl⟩);have hcost:(iy B (tried B xs)).2<=adt B xs:=by
  rw[adJ hB.links.1 htl];exact abZ hG hle _
 intro h;by_cases e:jC B (tried B xs)=xs
 ·refine hmin ?_;have:iy B (tried B xs)=(xs,adt B xs):=by
   have h2:=adJ hB.links.1 htl;rw[e] at h2;exact Prod.ext e h2
  rwa [this]
 ·refine hmin (ady ?_ h);have hcm:=(adI _ _ (by rw[MS htl hB.links.1,hx]) hle).2 e;unfold qR
  split
  ·exact hcm
  ·dsimp only at *; omega
theorem aea {B:Bk} (hG:Good B) (may:Int->Bool): ∃t,Dir B may t/\t.length=B.links.length/\(∀x∈t,0<=x/\x<=5)/\(aC B may).1=jC B t/\(aC B may).2=adt B (jC B t):=by
 obtain⟨t,hd,he⟩:=adP.1 (adO B may).1;obtain⟨h1,h2,_⟩:=ad4 hG.fine.links.1 hd;exact⟨t,hd,h1,h2,by rw[<-he];rfl,by rw[<-he];exact adJ hG.fine.links.1 h1⟩
theorem adE {xs:List Int} {k:Nat} (h:k<xs.length):xs[k]? =some (trk xs k):=by
 rw[lG h];unfold trk;rw[lD,lG h];rfl
theorem adX: ∀(x y:List Int),iq x y=true↔cmpL x y<0
 | [],[]=>by simp[iq,cmpL]
 | [],_::_=>by simp[iq,cmpL]
 |_::_,[]=>by simp[iq,cmpL]
 |a::x,b::y=>by
  have ih:=adX x y;simp only[iq,cmpL,mF];by_cases h1:a<b
  ·have:a≠b:=by omega
   simp[h1,this]
  ·by_cases h2:b<a
   ·have:a≠b:=by omega
    simp[h1,h2,this]
   ·have:a=b:=by omega
    subst this;simpa using ih
def adw (B:Bk) (k o i:Nat):Prop:=(B.pone i=k+1/\B.ptwo i=o)\/(B.ptwo i=k+1/\B.pone i=o)
open Classical in
noncomputable def met (B:Bk) (k o n:Nat):Int:=if ∃i,i<n/\adw B k o i then 1 else 0
theorem ads (B:Bk) (k o n:Nat):0<=met B k o n/\met B k o n<=1:=by unfold met;split<;>omega
theorem adF (B:Bk) (k o n:Nat):met B k o n<=met B k o (n+1):=by
 unfold met
 split
 ·rename_i h;obtain⟨i,h1,h2⟩:=h;rw[if_pos ⟨i,by omega,h2⟩];omega
 ·split<;>omega
theorem aee {B:Bk} (hB:B.Fine) (hA:B.alarm=0) {k o n:Nat} (hn:n<B.pairs.length) (h:adw B k o n):met B k o n=0/\met B k o (n+1)=1:=by
 have h1: ¬ ∃i,i<n/\adw B k o i:=by
  rintro⟨i,hi,h2⟩;have e1:=hB.ends n hn;have e2:=hB.ends i (by omega);refine Ol hA hi hn ?_;unfold adw at h h2;omega
 have h3: ∃i,i<n+1/\adw B k o i:=⟨n,by omega,h⟩;unfold met;rw[if_neg h1,if_pos h3];exact⟨rfl,rfl⟩
theorem adY {B:Bk} (hB:B.Fine) (hA:B.alarm=0) {T c:Nat->Int} (hT: ∀k,0<=T k) (hc: ∀i,i<B.pairs.length->0<=c i/\c i<=5) {k:Nat} (hk:k<B.spokes): ∀n,n<=B.pairs.length->adu B T c k n<=5*((if k+1=0 then 0 else met B k 0 n)+(if k+1=1 then 0 else met B k 1 n)+(if k+1=2 then 0 else met B k 2 n)+if k+1=3 then 0 else met B k 3 n)
 | 0,_=>by
  unfold adu;have h0:=ads B k 0 0;have h1:=ads B k 1 0;have h2:=ads B k 2 0;have h3:=ads B k 3 0
  split<;>split<;>split<;>split<;>omega
 |n+1,hn=>by
  have ih:=adY hB hA hT hc hk n (by omega);have he:=hB.ends n (by omega);have hcn:=hc n (by omega);have ht:=hB.towns;have hs:B.spokes=B.towns.length-1:=rfl;have hd:=pF B hB (B.pone n) (B.ptwo n);have hf:0<=adr B T (B.pone n) (B.ptwo n):=by unfold adr;split;exact hT _;omega
  have m0:=adF B k 0 n;have m1:=adF B k 1 n;have m2:=adF B k 2 n;have m3:=adF B k 3 n;have hinc:incr B T (c n) (B.pone n) (B.ptwo n) k<=if B.pone n=k+1\/B.ptwo n=k+1 then 5 else 0:=by
   unfold incr;by_cases ha:B.pone n=0
   ·rw[if_pos ha];split<;>split<;>omega
   ·rw[if_neg ha,if_neg (show ¬B.direct (B.pone n) (B.ptwo n)=k by omega)]
    split<;>split<;>omega
  unfold adu;by_cases hm:B.pone n=k+1\/B.ptwo n=k+1
  ·rw[if_pos hm] at hinc;obtain⟨o,ho,ho2,ho3⟩: ∃o:Nat,adw B k o n/\o<4/\o≠k+1:=by
    rcases hm with e |e
    ·exact⟨(B.ptwo n).toNat,.inl ⟨e,by omega⟩,by omega,by omega⟩
    ·exact⟨(B.pone n).toNat,.inr ⟨e,by omega⟩,by omega,by omega⟩
   have hnew:=aee hB hA (show n<B.pairs.length by omega) ho;obtain rfl |rfl |rfl |rfl:o=0\/o=1\/o=2\/o=3:=by omega
   all_goals
    simp only[hnew.1,hnew.2] at *
    split<;>split<;>split<;>split<;>simp_all<;>omega
  ·rw[if_neg hm] at hinc
   split<;>split<;>split<;>split<;>simp_all<;>omega
theorem aef {B:Bk} (hB:B.Fine) (hA:B.alarm=0) {T:Nat->Int} (hT: ∀k,0<=T k) (most:Bool) (h:Nat) {k:Nat} (hk:k<B.spokes):B.inn T most h k<=15:=by
 have h1:=adY hB hA hT (c:=B.call most h) (fun i _=>Gj B hB most h i) hk _ (nR _);rw[adW hB hA T _ (fun i _=>(Gj B hB most h i).1) k _ (nR _)] at h1;have h0:=ads B k 0 B.pairs.length;have h2:=ads B k 1 B.pairs.length;have h3:=ads B k 2 B.pairs.length;have h4:=ads B k 3 B.pairs.length;have ht:=hB.towns;have hs:B.spokes=B.towns.length-1:=rfl;unfold Bk.inn Bk.load;have:k=0\/k=1\/k=2:=by omega
 rcases this with rfl |rfl |rfl<;>simp at h1<;>omega
theorem aeg {B:Bk} (hB:B.Fine) (hA:B.alarm=0) {t:List Int} (ht: ∀x∈t,0<=x/\x<=5) (k:Nat):0<=trk (jC B t) k/\trk (jC B t) k<=15:=by
 have h0: ∀k,0<=trk t k/\trk t k<=5:=aob ht (by decide);rw[adD]
 split
 ·rename_i hk;exact⟨rM B _ k _,FW B _ k (by omega) _ fun h _=>aef hB hA (fun k=>(h0 k).1) true h hk⟩
 ·have:=h0 k;omega
theorem adZ {xs:List Int} (h: ∀k,k<xs.length->0<=trk xs k/\trk xs k<=20):dN xs=false:=by
 unfold dN;rw[List.any_eq_false];intro x hx;obtain⟨i,hi,rfl⟩:=List.getElem_of_mem hx;have h1:=h i hi;have h2:=adE hi;rw[lG hi] at h2;simp only[oI] at h2;rw[<-h2] at h1;simp[btw];omega
theorem adK {B:Bk} (hA:B.alarm=0) {may:Int->Bool}:aH B (aC B may).1 true=0/\(∀k,btw (trk (aC B may).1 k) 0 20=true)/\aQ B (trk (aC B may).1) B.hours.toNat 0 1=1/\(aC B may).2=fZ B (trk (aC B may).1) B.links.length:=by
 have hG:=gY hA;have hB:=hG.fine;obtain⟨t,hd,hl,ht,e1,e2⟩:=aea hG may;rw[e1,e2];have hb:=aeg hB hA ht;have hfl:=MS hl hB.links.1;refine⟨vG hA hfl (adZ fun k _=>by have:=hb k;omega),fun k=> ?_,ad6 hB,rfl⟩;have:=hb k;simp[btw];omega
def amF (B:Bk) (t:List Int):List Int×Int:=iy B (amD B t)
theorem anu {l:List (List Int×Int)} {i:Nat} {x b:List Int×Int} (hx:l[i]? =some x) (hb:iC (l.take i)=some b):iC (l.take (i+1))=some (if qR x b<0 then x else b):=by
 rw[List.take_add_one,hx]
 show iC (l.take i++ [x])=_
 rw[MO,hb]
 show (if qR x b<0 then some x else some b)=_
 split<;>rfl
theorem amQ {x b:List Int×Int}:qR x b<0↔x.2<b.2\/(x.2=b.2/\iq x.1 b.1=true):=by
 unfold qR;rw[adX]
 split<;>omega
structure Held (B:Bk) (x:List Int×Int):Prop where
 len:x.1.length=B.links.length
 bd: ∀k,0<=trk x.1 k/\trk x.1 k<=30
 cost:x.2=fZ B (trk x.1) x.1.length
theorem anv {B:Bk} (hB:B.Fine) {t:List Int} (hl:t.length=B.links.length-B.spokes) (h5: ∀i,0<=trk t i/\trk t i<=5):Held B (amF B t):=by
 have hll:=hB.links;have hwl:(amD B t).length=B.links.length:=by unfold amD;simp;omega
 refine⟨MS hwl hll.1,fun k=> ?_,rfl⟩
 show 0<=trk (jC B (amD B t)) k/\_
 unfold amF iy;dsimp only;rw[adD]
 split
 ·exact ZJ hB (fun k=>(amZ h5 k).1) k
 ·have:=amZ h5 (B:=B) k;omega
theorem ane {ms:List Int} (hms: ∀i,0<=trk ms i/\trk ms i<=5): ∀(m:Nat) (t x:List Int),(∀i,0<=trk t i/\trk t i<=5)->x∈dirs ms m t-> ∀i,0<=trk x i/\trk x i<=5
 | 0,t,x,ht,h=>by
  unfold dirs at h;rw[List.mem_singleton] at h;rw[h];exact ht
 |m+1,t,x,ht,h=>by
  unfold dirs at h;rw[List.mem_flatMap] at h;obtain⟨n,hn,hx⟩:=h;refine ane hms m _ x (fun i=> ?_) hx;have hn5:=List.mem_range.1 hn;have hm5:=hms t.length;unfold trk;rw[lD];by_cases e:i<t.length
  ·rw[List.getElem?_append_left e];have:=ht i;unfold trk at this;rw[lD] at this;exact this
  ·rw[List.getElem?_append_right (by omega)]
   cases hi:i-t.length with
   |zero=>simp;omega
   |succ j=>simp
theorem r58 (V:BkV) (B:Bk) (hG:Good B) (may:Int->Bool) (ms:List Int) (hml:ms.length=B.links.length-B.spokes) (htop: ∀i,i<ms.length->trk ms i=(iY may (B.spokes+i):Nat)) (ma:Option Addr) (mc:Nat) (w:wD) (hs:aB w V B) (hm:SlI w ma ms):
  Calls tP 58 #[V.val B,sL ma ms.length mc] w fun e w'=> ∃a c,e= .returned (.tuple #[sL a B.links.length c,iN qi (aC B may).2])/\SlI w' a (aC B may).1/\(aC B may).1.length=B.links.length/\bX w.heap.size w w':=by
 have hll:=hG.fine.links;have hms: ∀i,0<=trk ms i/\trk ms i<=5:=fun i=>by
  by_cases hi:i<ms.length
  ·rw[htop i hi];unfold iY;split<;>omega
  ·unfold trk;rw[lD,List.getElem?_eq_none (by omega)];simp
 have hoff:=anj hml htop;have hb0:bX w.heap.size w (w.alloc (.cells #[iN qi B.hours,sL V.ta B.towns.length V.tc,sL V.la B.links.length V.lc,sL V.pa B.pairs.length V.pc] 26)):=(bR _ _).alloc (nR _) _;have HC93:=lH (r93 ms hms (by omega) ma mc ms.length [] none 0 _ (by simp) (hm.below hb0 (nR _)) (.inl ⟨rfl,rfl,rfl⟩));have hone:=amY (ms:=ms) ms.length [];have hcnt:(dirs ms ms.length []).length<=46656:=Nat.le_trans (amP hms _ _) (Nat.pow_le_pow_right (by omega) (show ms.length<=6 by omega));have hAl: ∀t∈dirs ms ms.length [],t.length=B.links.length-B.spokes/\ ∀i,0<=trk t i/\trk t i<=5:=fun t ht=>⟨by rw[am7 _ _ _ ht,<-hml];simp,ane hms _ _ _ (fun i=>by simp[trk]) ht⟩;have hbest:iC ((dirs ms ms.length []).map (amF B))=some (aC B may):=by
  have h1:oP B may=(dirs ms ms.length []).map (amF B):=hoff;obtain⟨b,hb⟩:=ZH (oP B may) (by rw[h1];intro h;rw[List.map_eq_nil_iff] at h;rw[h] at hone;simp at hone);unfold aC;rw[<-h1,hb];rfl
 generalize dirs ms ms.length []=A at *;have HHeld:Hid (∀(j:Nat) (t:List Int),A[j]? =some t->Held B (amF B t)):=lH fun j t hj=>by
  obtain⟨h1,h2⟩:=hAl t (List.mem_of_getElem? hj);exact anv hG.fine h1 h2
 have H94:Hid (∀(j:Nat) (t:List Int) ra rc (u:wD),A[j]? =some t->bX w.heap.size w u->Rw u ra rc t->Calls tP 94 #[V.val B,sL ra t.length rc] u fun e u'=> ∃a c,e= .returned (sL a B.links.length c)/\SlI u' a (amF B t).1/\bX u.heap.size u u'):=lH fun j t ra rc u hj hu hr=>by
  obtain⟨h1,h2⟩:=hAl t (List.mem_of_getElem? hj);refine(r94 V B hG t h1 h2 ra rc u (hs.below hu (nR _)) hr).mono ?_;rintro e u' ⟨v,rfl,ho,hb⟩;obtain⟨a,c,e1,hsl⟩:=aeU (xs:=(amF B t).1) (HHeld.out j t hj).len ho;subst e1;exact⟨a,c,rfl,hsl,hb⟩
 have H56:Hid (∀(x:List Int×Int) a c (u:wD),Held B x->bX w.heap.size w u->SlI u a x.1->Calls tP 56 #[V.val B,sL a B.links.length c] u fun e u'=>e= .returned (iN qi x.2)/\bX u.heap.size u u'):=lH fun x a c u hx hu hsl=>by
  have:=r56 V B hG x.1 a c u (hs.below hu (nR _)) hsl hx.len hx.bd;rw[hx.len] at this;refine this.mono ?_;rintro e u' ⟨rfl,hb⟩;exact⟨by rw[hx.cost,hx.len],hb⟩
 have HBest:=lH hbest;have HTk:Hid (∀(i:Nat) (t:List Int) (b:List Int×Int),A[i]? =some t->iC ((A.map (amF B)).take i)=some b->iC ((A.map (amF B)).take (i+1))=some (if qR (amF B t) b<0 then amF B t else b)):=lH fun i t b hi hb=>anu (by rw[List.getElem?_map,hi];rfl) hb;have HT1:Hid (∀t,A[0]? =some t->iC ((A.map (amF B)).take 1)=some (amF B t)):=lH fun t ht=>by
  cases A with
  |nil=>cases ht
  |cons a l=>simp at ht;subst ht;rfl
 have HTn:Hid ((A.map (amF B)).take A.length=A.map (amF B)):=lH (List.take_of_length_le (by simp));generalize aC B may=R at *;generalize amF B=O at *;have hl6:B.links.length<=6:=hll.2;have hlm:ms.length<=6:=by omega
 have HB0:=lH hb0;obtain⟨ta,la,pa,tc,lc,pc⟩:=V;simp only[BkV.val] at *;clear hG hs hm hll hms hoff hAl hbest hml htop hb0;go_enter Tryz.func58,Tryz.ntmps58
 go_wp2_with fail
 refine HC93.out.mono ?_;rintro e W ⟨v3,rfl,hll3,hb3⟩;obtain⟨us,hul,huo,hue⟩:=hll3.len;obtain⟨g,gc,rfl,_,_,hcell,_,hgc,hgm⟩:=ru huo hone;have HBW:=lH (HB0.out.trans (hb3.mono (by simp)));have HW:=lH (amL (V:=⟨ta,la,pa,tc,lc,pc⟩) (by simpa using hb3));have HAt:Hid (∀(i:Nat) (t:List Int),A[i]? =some t-> ∃a c,(∀u,bX W.heap.size W u->u.cell? ⟨g,i,none⟩=some (sL a t.length c)/\Rw u a c t)):=lH fun i t hi=>by
  obtain⟨a,c,h1,h2⟩:=hue i t hi;exact⟨a,c,fun u hu=>⟨aoF hu (hcell i _ h1) (nR _),h2.keep (Kp.below hu)⟩⟩
 clear HC93 HB0 hll3 huo hue hcell hb3 hul;have hW0:bX W.heap.size W W.drew:=(bR _ _).drew;have HCx: ∀u,bX W.heap.size W u->u.cell? ⟨w.heap.size,0,none⟩=some (iN qi B.hours)/\u.cell? ⟨w.heap.size,1,none⟩=some (sL ta B.towns.length tc)/\u.cell? ⟨w.heap.size,2,none⟩=some (sL la B.links.length lc)/\u.cell? ⟨w.heap.size,3,none⟩=some (sL pa B.pairs.length pc):=fun u hu=>⟨aoF hu HW.out.1 (nR _),aoF hu HW.out.2.1 (nR _),aoF hu HW.out.2.2.1 (nR _),aoF hu HW.out.2.2.2 (nR _)⟩;have HCX:=lH HCx;obtain⟨t0,ht0⟩: ∃t,A[0]? =some t:=⟨_,lG (by omega)⟩;obtain⟨a0,c0,hat0⟩:=HAt.out 0 t0 ht0;have HT0:=lH ht0;have hone2:(0 :Int)<(A.length:Int):=by omega
 have hane: ¬A= []:=by intro h;rw[h] at hone;simp at hone
 clear ht0;have HC: ∀u,bX W.heap.size W u->(u.cell? ⟨w.heap.size,0,none⟩=some (iN qi B.hours)/\u.cell? ⟨w.heap.size,1,none⟩=some (sL ta B.towns.length tc)/\u.cell? ⟨w.heap.size,2,none⟩=some (sL la B.links.length lc)/\u.cell? ⟨w.heap.size,3,none⟩=some (sL pa B.pairs.length pc))/\u.cell? ⟨g,0,none⟩=some (sL a0 t0.length c0):=fun u hu=>⟨HCX.out u hu,(hat0 u hu).1⟩
 go_wp2_with fail
 refine aif 6 6 (fun u=>bX W.heap.size W u) (by kernel_rfl) ?_;refine ahN 0 (.agg #[iN qi B.hours,sL ta B.towns.length tc,sL la B.links.length lc,sL pa B.pairs.length pc]) hW0 ?_ (hr:=fun u hu=>by obtain⟨⟨c0x,c1x,c2x,c3x⟩,c4x⟩:=HC u hu;go_simp);refine ahN 1 (sL (some ⟨g,0,none⟩) A.length gc) hW0 ?_ (hr:=fun u hu=>by go_simp);refine ahN 2 (pN (some ⟨g,0,none⟩)) hW0 ?_ (hr:=fun u hu=>by go_simp);refine ahN 3 (sL a0 t0.length c0) hW0 ?_ (hr:=fun u hu=>by obtain⟨⟨c0x,c1x,c2x,c3x⟩,c4x⟩:=HC u hu;go_simp);refine ahQ 4 (h:= ?_);refine ahW (f:=94) (args:= #[.agg #[iN qi B.hours,sL ta B.towns.length tc,sL la B.links.length lc,sL pa B.pairs.length pc],sL a0 t0.length c0]) (w':=W.drew) (by go_simp) ((H94.out 0 t0 a0 c0 W.drew HT0.out (HBW.out.trans (hW0.mono HBW.out.size)) (hat0 _ hW0).2).mono ?_);rintro e u1 ⟨a1,c1,rfl,hsl1,hb1⟩;have hs1:=hW0.trans (hb1.mono hW0.size);refine⟨_,rfl,fun _=>hs1, ?_⟩;refine ahN 5 (sL a1 B.links.length c1) hs1 ?_ (hr:=fun u hu=>by go_simp);refine ahZ ?_;go_simp;have HSl:=lH hsl1;have HB1:=lH hs1;clear hsl1 hs1 hb1 HC HCx hW0
 go_wp2_with fail
 go_loopw [7,8] (fun v i wr=> ∃(i0:Nat) (b:List Int×Int) (a:Option Addr) (c:Nat),1<=i0/\i0<=A.length/\i= iN qi (i0:Int)/\v= sL a B.links.length c/\iC ((A.map O).take i0)=some b/\Held B b/\SlI wr a b.1/\bX W.heap.size W wr) (fun _ i _=>A.length-(intOf i).toNat)
 case atStart=>exact⟨1,O t0,a1,c1,nR _,hone,rfl,rfl,HT1.out _ HT0.out,HHeld.out 0 _ HT0.out,HSl.out,HB1.out⟩
 case round=>
  obtain⟨i,b,a,c,hi1,hiA,rfl,rfl,hleast,hheld,hsl,hb⟩:=hrel;have HLe:=lH hleast;have HHd:=lH hheld;have HSb:=lH hsl;have Hb:=lH hb;clear hleast hheld hsl hb;by_cases hlt:i<A.length
  ·have hlt2:(i:Int)<(A.length:Int):=by omega
   obtain⟨t,ht⟩: ∃t,A[i]? =some t:=⟨_,lG hlt⟩;obtain⟨at_,ac,hat⟩:=HAt.out i t ht;have Ht:=lH ht;clear ht;have hW:bX W.heap.size W wr.drew:=Hb.out.drew;have HC: ∀u,bX W.heap.size W u->(u.cell? ⟨w.heap.size,0,none⟩=some (iN qi B.hours)/\u.cell? ⟨w.heap.size,1,none⟩=some (sL ta B.towns.length tc)/\u.cell? ⟨w.heap.size,2,none⟩=some (sL la B.links.length lc)/\u.cell? ⟨w.heap.size,3,none⟩=some (sL pa B.pairs.length pc))/\u.cell? ⟨g,i,none⟩=some (sL at_ t.length ac):=fun u hu=>⟨HCX.out u hu,(hat u hu).1⟩
   go_wp2_with fail
   refine aif 7 7 (fun u=>bX W.heap.size W u) (by kernel_rfl) ?_;refine ahN 0 (.agg #[iN qi B.hours,sL ta B.towns.length tc,sL la B.links.length lc,sL pa B.pairs.length pc]) hW ?_ (hr:=fun u hu=>by obtain⟨⟨c0x,c1x,c2x,c3x⟩,c4x⟩:=HC u hu;go_simp);refine ahN 1 (sL (some ⟨g,0,none⟩) A.length gc) hW ?_ (hr:=fun u hu=>by go_simp);refine ahN 2 (iN qi (i:Int)) hW ?_ (hr:=fun u hu=>by go_simp);refine ahN 3 (pN (some ⟨g,i,none⟩)) hW ?_ (hr:=fun u hu=>by go_simp);refine ahN 4 (sL at_ t.length ac) hW ?_ (hr:=fun u hu=>by obtain⟨⟨c0x,c1x,c2x,c3x⟩,c4x⟩:=HC u hu;go_simp);refine ahQ 5 (h:= ?_);refine ahW (f:=94) (args:= #[.agg #[iN qi B.hours,sL ta B.towns.length tc,sL la B.links.length lc,sL pa B.pairs.length pc],sL at_ t.length ac]) (w':=wr.drew) (by go_simp) ((H94.out i t at_ ac wr.drew Ht.out (HBW.out.trans (hW.mono HBW.out.size)) (hat _ hW).2).mono ?_);rintro e u1 ⟨a1,c1,rfl,hsl1,hb1⟩;have hs1:=hW.trans (hb1.mono hW.size);refine⟨_,rfl,fun _=>hs1, ?_⟩;refine ahN 6 (sL a1 B.links.length c1) hs1 ?_ (hr:=fun u hu=>by go_simp);refine ahZ ?_;go_simp;have HX:=lH (HHeld.out i t Ht.out);have HK:=lH (HTk.out i t b Ht.out HLe.out);have QSx:=lH hsl1;have QSb1:=lH (HSb.out.below (((bR wr.heap.size wr).drew).trans hb1) (nR _));have HB1x:=lH hs1;clear hsl1 hb1 HC hs1 hW;generalize O t=x at *;obtain⟨W1,hW1⟩: ∃q,q=u1:=⟨_,rfl⟩;subst hW1;have hW:bX W1.heap.size W1 W1.drew:=(bR _ _).drew;have HC: ∀u,bX W1.heap.size W1 u->u.cell? ⟨w.heap.size,0,none⟩=some (iN qi B.hours)/\u.cell? ⟨w.heap.size,1,none⟩=some (sL ta B.towns.length tc)/\u.cell? ⟨w.heap.size,2,none⟩=some (sL la B.links.length lc)/\u.cell? ⟨w.heap.size,3,none⟩=some (sL pa B.pairs.length pc):=fun u hu=>HCX.out u (HB1x.out.trans (hu.mono HB1x.out.size))
   go_wp2_with fail
   refine aif 8 8 (fun u=>bX W1.heap.size W1 u) (by kernel_rfl) ?_;refine ahN 0 (.agg #[iN qi B.hours,sL ta B.towns.length tc,sL la B.links.length lc,sL pa B.pairs.length pc]) hW ?_ (hr:=fun u hu=>by obtain⟨c0x,c1x,c2x,c3x⟩:=HC u hu;go_simp);refine ahN 1 (sL a1 B.links.length c1) hW ?_ (hr:=fun u hu=>by go_simp);refine ahN 3 (.agg #[iN qi B.hours,sL ta B.towns.length tc,sL la B.links.length lc,sL pa B.pairs.length pc]) hW ?_ (hr:=fun u hu=>by obtain⟨c0x,c1x,c2x,c3x⟩:=HC u hu;go_simp);refine ahN 4 (sL a B.links.length c) hW ?_ (hr:=fun u hu=>by go_simp);refine ahQ 2 (h:= ?_);refine ahW (f:=56) (args:= #[.agg #[iN qi B.hours,sL ta B.towns.length tc,sL la B.links.length lc,sL pa B.pairs.length pc],sL a1 B.links.length c1]) (w':=W1.drew) (by go_simp) ((H56.out x a1 c1 W1.drew HX.out (HBW.out.trans ((HB1x.out.trans (hW.mono HB1x.out.size)).mono HBW.out.size)) (QSx.out.below hW (nR _))).mono ?_);rintro e u1 ⟨rfl,hb1⟩;have hs1:=hW.trans (hb1.mono hW.size);refine⟨_,rfl,fun _=>hs1, ?_⟩;refine ahQ 5 (h:= ?_);refine ahW (f:=56) (args:= #[.agg #[iN qi B.hours,sL ta B.towns.length tc,sL la B.links.length lc,sL pa B.pairs.length pc],sL a B.links.length c]) (w':=u1) (by go_simp) ((H56.out b a c u1 HHd.out (HBW.out.trans ((HB1x.out.trans (hs1.mono HB1x.out.size)).mono HBW.out.size)) (QSb1.out.below hs1 (nR _))).mono ?_);rintro e u2 ⟨rfl,hb2⟩;have hs2:=hs1.trans (hb2.mono hs1.size);refine⟨_,rfl,fun _=>hs2, ?_⟩;refine ahN 6 (iN qi x.2) hs2 ?_ (hr:=fun u hu=>by go_simp);refine ahN 7 (iN qi b.2) hs2 ?_ (hr:=fun u hu=>by go_simp);refine ahZ ?_;go_simp;have HS2:=lH hs2;have QSx2:=lH (QSx.out.below hs2 (nR _));have HSb2:=lH (QSb1.out.below hs2 (nR _));have HB2:=lH (HB1x.out.trans (hs2.mono HB1x.out.size));clear hs1 hs2 hb1 hb2 HC hW;obtain⟨W2,hW2⟩: ∃q,q=u2:=⟨_,rfl⟩;subst hW2;obtain⟨x1,n⟩:=x;obtain⟨b1,m⟩:=b;have hx1:=HX.out.len;have hb1:=HHd.out.len;simp only at QSx2 HSb2 hx1 hb1;have HC60:Hid (Calls tP 60 #[sL a1 B.links.length c1,sL a B.links.length c] W2 fun e w'=>e= .returned (.bool (iq x1 b1))/\bX W2.heap.size W2 w'):=lH (by
    have:=c41 x1 b1 a1 a c1 c W2 QSx2.out HSb2.out (by omega) (by omega);rw[hx1,hb1] at this;exact this)
   clear hx1 hb1;by_cases h1:n<m
   ·have HN:Hid (iC ((A.map O).take (i+1))=some (x1,n)):=lH (by rw[HK.out,if_pos (amQ.2 (.inl h1))]);go_wp2;go_roundw
    case rel=>exact⟨i+1,(x1,n),a1,c1,by omega,by omega,by go_num,rfl,HN.out,HX.out,QSx2.out,HB2.out⟩
    case measure=>simp[intOf];omega
   ·by_cases h2:n=m
    ·cases hls:iq x1 b1 with
     |true=>
      have HN:Hid (iC ((A.map O).take (i+1))=some (x1,n)):=lH (by rw[HK.out,if_pos (amQ.2 (.inr ⟨h2,hls⟩))]);rw[hls] at HC60
      go_wp2_with fail
      refine HC60.out.mono ?_;rintro e w5 ⟨rfl,hb5⟩;have QSx5:=lH (QSx2.out.below hb5 (nR _));have HB5:=lH (HB2.out.trans (hb5.mono HB2.out.size));clear hb5;go_wp2;go_roundw
      case rel=>exact⟨i+1,(x1,n),a1,c1,by omega,by omega,by go_num,rfl,HN.out,HX.out,QSx5.out,HB5.out⟩
      case measure=>simp[intOf];omega
     |false=>
      have HN:Hid (iC ((A.map O).take (i+1))=some (b1,m)):=lH (by rw[HK.out,if_neg (fun h=>by rcases amQ.1 h with h |⟨_,h⟩;exact h1 h;rw[hls] at h;cases h)]);rw[hls] at HC60
      go_wp2_with fail
      refine HC60.out.mono ?_;rintro e w5 ⟨rfl,hb5⟩;have HSb5:=lH (HSb2.out.below hb5 (nR _));have HB5:=lH (HB2.out.trans (hb5.mono HB2.out.size));clear hb5;go_wp2;go_roundw
      case rel=>exact⟨i+1,(b1,m),a,c,by omega,by omega,by go_num,rfl,HN.out,HHd.out,HSb5.out,HB5.out⟩
      case measure=>simp[intOf];omega
    ·have HN:Hid (iC ((A.map O).take (i+1))=some (b1,m)):=lH (by rw[HK.out,if_neg (fun h=>by rcases amQ.1 h with h |⟨h,_⟩;exact h1 h;exact h2 h)]);go_wp2;go_roundw
     case rel=>exact⟨i+1,(b1,m),a,c,by omega,by omega,by go_num,rfl,HN.out,HHd.out,HSb2.out,HB2.out⟩
     case measure=>simp[intOf];omega
  ·have hie:i=A.length:=by omega
   have hRb:b=R:=by
    have h:=HLe.out;rw[hie,HTn.out,HBest.out,oI] at h;exact h.symm
   subst hRb;have H5:=lH (H56.out b a c wr HHd.out (HBW.out.trans (Hb.out.mono HBW.out.size)) HSb.out);have HLn:=lH HHd.out.len;have hlt2: ¬(i:Int)<(A.length:Int):=by omega
   clear hie;obtain⟨p0,p1,p2,p3⟩:=HCX.out wr Hb.out
   go_wp2_with fail
   refine H5.out.mono ?_;rintro e w5 ⟨rfl,hb5⟩;have HSb5:=lH (HSb.out.below hb5 (nR _));have HB5:=lH (HBW.out.trans ((Hb.out.trans (hb5.mono Hb.out.size)).mono HBW.out.size));clear hb5 p0 p1 p2 p3;go_wp2
   go_ret2
   exact⟨a,c,rfl,HSb5.out,HLn.out,HB5.out⟩
end Go.Proofs.YtaikibfkggglgaaGreatDoor
