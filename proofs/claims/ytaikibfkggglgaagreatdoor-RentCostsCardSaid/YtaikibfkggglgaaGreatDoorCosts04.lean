/- A part of the proof of a law; no conditions of its own. -/
import Derived.Test.YtaikibfkggglgaaGreatDoorCosts03
set_option maxRecDepth 100000
open Go renaming undef→ud
open Nat renaming le_refl→nR
open Go.Lib renaming hid→lH
open Go.RowKit.Below renaming refl→bR
open Go.Proofs.Tryz renaming prog→tP
set_option maxHeartbeats 4000000
namespace Go.Proofs.YtaikibfkggglgaaGreatDoor
open Go.RowKit Go.Rent Go.Tp Go.Conc
noncomputable def aiH:Code:=match Tryz.f19.body with
 |some (.seq _ (.seq c _))=>c
 |_=> .skip
theorem aiZ {Q:Exit->Act->World->Prop} (v0 kv bk ag:Value) (b:Nat) (n:Int) (la:Option Addr) (nl lc:Nat) (bt:Bool) (h':Int) (ta' la' pa':Option Addr) (tc' lc' pc' n1 n2 n3:Nat) (al:Int) (W:World)
  (hag:ag= .agg #[.int .i64 h',.slice ta' n1 tc',.slice la' n2 lc',.slice pa' n3 pc']) (hnl:nl<=1000000) (hkv:kv= .int .i64 n) (h:Int) (ta pa:Option Addr) (nt np tc pc:Nat) (hbk:bk= .agg #[.int .i64 h,.slice ta nt tc,.slice la nl lc,.slice pa np pc])
  (k0:W.cell? ⟨b,0,none⟩=some (.int .i64 h)) (k1:W.cell? ⟨b,1,none⟩=some (.slice ta nt tc)) (k2:W.cell? ⟨b,2,none⟩=some (.slice la nl lc)) (k3:W.cell? ⟨b,3,none⟩=some (.slice pa np pc))
  (H69: ∀u,Below W.heap.size W u->Calls tP 50 #[kv,.int .i64 0,.int .i64 ((nl:Int)-1)] u fun e u'=>e= .returned (.bool bt)/\Below u.heap.size u u')
  (H78: ∀u,Below W.heap.size W u->Calls tP 39 #[bk,.bool bt] u fun e u'=>e= .returned (.tuple #[ag,.int .i64 al])/\Below u.heap.size u u')
  (K: ∀(b6:Nat) (w':World),W.heap.size<=b6->Below W.heap.size W w'->dW w' b6 (.int .i64 h') (.slice ta' n1 tc') (.slice la' n2 lc') (.slice pa' n3 pc')->Q .normal ⟨#[v0,kv,.pointer (some ⟨b,0,none⟩),ud,.int .i64 0,.int .i64 0,.pointer (some ⟨b6,0,none⟩),.int .i64 al,.tuple #[ag,.int .i64 al],bk,kv,.pointer (some ⟨b,2,none⟩),.slice la nl lc,.int .i64 (nl:Int),.int .i64 ((nl:Int)-1),.bool bt,.tuple #[ag,.int .i64 al],ag,.int .i64 al,ud,ud,ud,ud,ud,ud,ud,ud,ud,ud,ud,ud],[]⟩ w'):
  aiH.wp tP Q ⟨#[v0,kv,.pointer (some ⟨b,0,none⟩),ud,.int .i64 0,.int .i64 0,ud,ud,ud,ud,ud,ud,ud,ud,ud,ud,ud,ud,ud,ud,ud,ud,ud,ud,ud,ud,ud,ud,ud,ud,ud],[]⟩ W:=by
 subst hag hkv hbk;have hwr:IntKind.wrap .i64 ((nl:Int)-1)=(nl:Int)-1:=IntWalk.i64_in _ (by omega);simp only[aiH,Tryz.f19];have hW:Below W.heap.size W W.drew:=(bR _ _).drew;have HC: ∀u,Below W.heap.size W u->u.cell? ⟨b,0,none⟩=some (.int .i64 h)/\u.cell? ⟨b,1,none⟩=some (.slice ta nt tc)/\u.cell? ⟨b,2,none⟩=some (.slice la nl lc)/\u.cell? ⟨b,3,none⟩=some (.slice pa np pc):=fun u hu=>⟨cell_below hu k0 (nR _),cell_below hu k1 (nR _),cell_below hu k2 (nR _),cell_below hu k3 (nR _)⟩;refine aif 14 14 (fun u=>Below W.heap.size W u) (by kernel_rfl) ?_;refine ahN 0 (.agg #[.int .i64 h,.slice ta nt tc,.slice la nl lc,.slice pa np pc]) hW ?_ (hr:=fun u hu=>by obtain⟨c0,c1,c2,c3⟩:=HC u hu;go_simp);refine ahN 1 (.int .i64 n) hW ?_ (hr:=fun u hu=>by go_simp);refine ahN 2 (.pointer (some ⟨b,2,none⟩)) hW ?_ (hr:=fun u hu=>by go_simp);refine ahN 3 (.slice la nl lc) hW ?_ (hr:=fun u hu=>by obtain⟨c0,c1,c2,c3⟩:=HC u hu;go_simp);refine ahN 4 (.int .i64 (nl:Int)) hW ?_ (hr:=fun u hu=>by go_simp);refine ahN 5 (.int .i64 ((nl:Int)-1)) hW ?_ (hr:=fun u hu=>by go_simp);have hz:=hW.size;have fin: ∀(b6:Nat) (u:World),W.heap.size<=b6->Below W.heap.size W u->(∃c0 c1 c2 c3,dW u b6 c0 c1 c2 c3)->dW ((((u.setCell ⟨b6,0,none⟩ (.int .i64 h')).setCell ⟨b6,1,none⟩ (.slice ta' n1 tc')).setCell ⟨b6,2,none⟩ (.slice la' n2 lc')).setCell ⟨b6,3,none⟩ (.slice pa' n3 pc')) b6 (.int .i64 h') (.slice ta' n1 tc') (.slice la' n2 lc') (.slice pa' n3 pc')/\Below W.heap.size W ((((u.setCell ⟨b6,0,none⟩ (.int .i64 h')).setCell ⟨b6,1,none⟩ (.slice ta' n1 tc')).setCell ⟨b6,2,none⟩ (.slice la' n2 lc')).setCell ⟨b6,3,none⟩ (.slice pa' n3 pc')):=fun b6 u h1 h2 ⟨_,_,_,_,h3⟩=>⟨aiK h3 _ _ _ _,aik h2 h1 rfl _ _ _ _⟩;refine aie 6 11 ?_ ?_
 ·refine ahW (f:=50) (args:= #[.int .i64 n,.int .i64 0,.int .i64 ((nl:Int)-1)]) (w':=W.drew) (by go_simp) ((H69 _ hW).mono ?_);rintro e u ⟨rfl,hb⟩;have hu:Below W.heap.size W u:=hW.trans (hb.mono hz);refine⟨_,rfl,fun _=>hu, ?_⟩;refine aie 7 11 ?_ ?_
  ·refine ahW (f:=39) (args:= #[.agg #[.int .i64 h,.slice ta nt tc,.slice la nl lc,.slice pa np pc],.bool bt]) (w':=u) (by go_simp) ((H78 _ hu).mono ?_);rintro e u1 ⟨rfl,hb1⟩;have hu1:Below W.heap.size W u1:=hu.trans (hb1.mono hu.size);refine⟨_,rfl,fun _=>hu1, ?_⟩;refine ahN 8 (.tuple #[.agg #[.int .i64 h',.slice ta' n1 tc',.slice la' n2 lc',.slice pa' n3 pc'],.int .i64 al]) hu1 ?_ (hr:=fun u hu=>by go_simp);refine ahN 9 (.agg #[.int .i64 h',.slice ta' n1 tc',.slice la' n2 lc',.slice pa' n3 pc']) hu1 ?_ (hr:=fun u hu=>by go_simp);refine ahN 10 (.int .i64 al) hu1 ?_ (hr:=fun u hu=>by go_simp);refine ahQ 11 (h:=ah0 (v:= .pointer (some ⟨u1.heap.size,0,none⟩)) (w':=u1.alloc (.cells #[.int .i64 0,.slice none 0 0,.slice none 0 0,.slice none 0 0] 73)) (by go_simp) ⟨fun _=>hu1.alloc hu1.size _, ?_⟩);have hr:=ahT u1 73 (.int .i64 0) (.slice none 0 0) (.slice none 0 0) (.slice none 0 0);have hua:=hu1.alloc hu1.size (.cells #[.int .i64 0,.slice none 0 0,.slice none 0 0,.slice none 0 0] 73);have hus:=hu1.size;generalize u1.alloc (.cells #[.int .i64 0,.slice none 0 0,.slice none 0 0,.slice none 0 0] 73)=ua at *;generalize u1.heap.size=b6 at *;obtain⟨g1,g2⟩:=fin b6 ua hus hua ⟨_,_,_,_,hr⟩;refine ahQ 12 (h:=ah1 (w':=((((ua.setCell ⟨b6,0,none⟩ (.int .i64 h')).setCell ⟨b6,1,none⟩ (.slice ta' n1 tc')).setCell ⟨b6,2,none⟩ (.slice la' n2 lc')).setCell ⟨b6,3,none⟩ (.slice pa' n3 pc'))) ?_ ⟨fun _=>g2, ?_⟩)
   ·obtain⟨hz',c0,c1,c2,c3,f0,f1,f2,f3⟩:=hr;go_simp
   refine ahN 13 (.int .i64 al) g2 ?_ (hr:=fun u hu=>by go_simp);refine ahZ ?_;have hK:=K _ _ hus g2 g1;clear K;go_simp;exact hK
  ·refine ah0 (v:= .pointer (some ⟨u.heap.size,0,none⟩)) (w':=u.alloc (.cells #[.int .i64 0,.slice none 0 0,.slice none 0 0,.slice none 0 0] 73)) (by go_simp) ⟨fun _=>hu.alloc hu.size _, ?_⟩;have hn:=ahT u 73 (.int .i64 0) (.slice none 0 0) (.slice none 0 0) (.slice none 0 0);have hua:=hu.alloc hu.size (.cells #[.int .i64 0,.slice none 0 0,.slice none 0 0,.slice none 0 0] 73);have hus:=hu.size;generalize u.alloc (.cells #[.int .i64 0,.slice none 0 0,.slice none 0 0,.slice none 0 0] 73)=ua at *;generalize u.heap.size=b6 at *;refine ahQ 7 (h:= ?_);refine ahW (f:=39) (args:= #[.agg #[.int .i64 h,.slice ta nt tc,.slice la nl lc,.slice pa np pc],.bool bt]) (w':=ua) (by go_simp) ((H78 _ hua).mono ?_);rintro e u1 ⟨rfl,hb1⟩;have hu1:Below W.heap.size W u1:=hua.trans (hb1.mono hua.size);refine⟨_,rfl,fun _=>hu1, ?_⟩;have hr:=hn.below hb1 hn.z;refine ahN 8 (.tuple #[.agg #[.int .i64 h',.slice ta' n1 tc',.slice la' n2 lc',.slice pa' n3 pc'],.int .i64 al]) hu1 ?_ (hr:=fun u hu=>by go_simp);refine ahN 9 (.agg #[.int .i64 h',.slice ta' n1 tc',.slice la' n2 lc',.slice pa' n3 pc']) hu1 ?_ (hr:=fun u hu=>by go_simp);refine ahN 10 (.int .i64 al) hu1 ?_ (hr:=fun u hu=>by go_simp);obtain⟨g1,g2⟩:=fin b6 u1 hus hu1 ⟨_,_,_,_,hr⟩;refine ahQ 12 (h:=ah1 (w':=((((u1.setCell ⟨b6,0,none⟩ (.int .i64 h')).setCell ⟨b6,1,none⟩ (.slice ta' n1 tc')).setCell ⟨b6,2,none⟩ (.slice la' n2 lc')).setCell ⟨b6,3,none⟩ (.slice pa' n3 pc'))) ?_ ⟨fun _=>g2, ?_⟩)
   ·obtain⟨hz',c0,c1,c2,c3,f0,f1,f2,f3⟩:=hr;go_simp
   refine ahN 13 (.int .i64 al) g2 ?_ (hr:=fun u hu=>by go_simp);refine ahZ ?_;have hK:=K _ _ hus g2 g1;clear K;go_simp;exact hK
 ·refine ah0 (v:= .pointer (some ⟨W.drew.heap.size,0,none⟩)) (w':=W.drew.alloc (.cells #[.int .i64 0,.slice none 0 0,.slice none 0 0,.slice none 0 0] 73)) (by go_simp) ⟨fun _=>hW.alloc hW.size _, ?_⟩;have hn:=ahT W.drew 73 (.int .i64 0) (.slice none 0 0) (.slice none 0 0) (.slice none 0 0);have hua:=hW.alloc hW.size (.cells #[.int .i64 0,.slice none 0 0,.slice none 0 0,.slice none 0 0] 73);have hus:=hW.size;generalize W.drew.alloc (.cells #[.int .i64 0,.slice none 0 0,.slice none 0 0,.slice none 0 0] 73)=ua at *;generalize W.drew.heap.size=b6 at *;refine ahQ 6 (h:= ?_);refine ahW (f:=50) (args:= #[.int .i64 n,.int .i64 0,.int .i64 ((nl:Int)-1)]) (w':=ua) (by go_simp) ((H69 _ hua).mono ?_);rintro e u ⟨rfl,hb⟩;have hu:Below W.heap.size W u:=hua.trans (hb.mono hua.size);refine⟨_,rfl,fun _=>hu, ?_⟩;have hr0:=hn.below hb hn.z;refine ahQ 7 (h:= ?_);refine ahW (f:=39) (args:= #[.agg #[.int .i64 h,.slice ta nt tc,.slice la nl lc,.slice pa np pc],.bool bt]) (w':=u) (by go_simp) ((H78 _ hu).mono ?_);rintro e u1 ⟨rfl,hb1⟩;have hu1:Below W.heap.size W u1:=hu.trans (hb1.mono hu.size);refine⟨_,rfl,fun _=>hu1, ?_⟩;have hr:=hr0.below hb1 hr0.z;refine ahN 8 (.tuple #[.agg #[.int .i64 h',.slice ta' n1 tc',.slice la' n2 lc',.slice pa' n3 pc'],.int .i64 al]) hu1 ?_ (hr:=fun u hu=>by go_simp);refine ahN 9 (.agg #[.int .i64 h',.slice ta' n1 tc',.slice la' n2 lc',.slice pa' n3 pc']) hu1 ?_ (hr:=fun u hu=>by go_simp);refine ahN 10 (.int .i64 al) hu1 ?_ (hr:=fun u hu=>by go_simp);obtain⟨g1,g2⟩:=fin b6 u1 hus hu1 ⟨_,_,_,_,hr⟩;refine ahQ 12 (h:=ah1 (w':=((((u1.setCell ⟨b6,0,none⟩ (.int .i64 h')).setCell ⟨b6,1,none⟩ (.slice ta' n1 tc')).setCell ⟨b6,2,none⟩ (.slice la' n2 lc')).setCell ⟨b6,3,none⟩ (.slice pa' n3 pc'))) ?_ ⟨fun _=>g2, ?_⟩)
  ·obtain⟨hz',c0,c1,c2,c3,f0,f1,f2,f3⟩:=hr;go_simp
  refine ahN 13 (.int .i64 al) g2 ?_ (hr:=fun u hu=>by go_simp);refine ahZ ?_;have hK:=K _ _ hus g2 g1;clear K;go_simp;exact hK
theorem ajo (V:BkV) (B:Bk) (al:Int): ∃(h:Int) (U:BkV) (n1 n2 n3:Nat),bU V B al= .tuple #[.agg #[.int .i64 h,.slice U.ta n1 U.tc,.slice U.la n2 U.lc,.slice U.pa n3 U.pc],.int .i64 al]/\(al=0->h=B.hours/\U=V/\n1=B.towns.length/\n2=B.links.length/\n3=B.pairs.length):=by
 by_cases h:al=0
 ·subst h;exact⟨B.hours,V,_,_,_,jE,fun _=>⟨rfl,rfl,rfl,rfl,rfl⟩⟩
 ·exact⟨0,⟨none,none,none,0,0,0⟩,0,0,0,lC h,fun e=>absurd e h⟩
def ah3 (B:Bk) (k:Int):Value:=
 if fF B (btw k 0 ((B.links.length:Int)-1))=0 then (if k<B.spokes then .tuple #[.int .i64 0,.int .i64 7] else .tuple #[.int .i64 (kD B k),.int .i64 0])
 else .tuple #[.int .i64 0,.int .i64 (fF B (btw k 0 ((B.links.length:Int)-1)))]
theorem c51 (V:BkV) (B:Bk) (k:Int) (w:World) (hs:aB w V B) (hv:Vars w):Calls tP 19 #[V.val B,.int .i64 k] w fun e w'=>e= .returned (ah3 B k)/\Below w.heap.size w w':=by
 obtain⟨ta,la,pa,tc,lc,pc⟩:=V;have hnl:=hs.nl;have hnt:=hs.tc;simp only at hnt;obtain⟨h',⟨ta',la',pa',tc',lc',pc'⟩,n1,n2,n3,hres,hy⟩:=ajo ⟨ta,la,pa,tc,lc,pc⟩ B (fF B (btw k 0 ((B.links.length:Int)-1)));have Hs:=lH hs;have Hv:=lH hv;have Hy:=lH hy;have HE:Hid (ah3 B k=if fF B (btw k 0 ((B.links.length:Int)-1))=0 then (if k<B.spokes then .tuple #[.int .i64 0,.int .i64 7] else .tuple #[.int .i64 (kD B k),.int .i64 0]) else .tuple #[.int .i64 0,.int .i64 (fF B (btw k 0 ((B.links.length:Int)-1)))]):=lH rfl;have HG:Hid (fF B (btw k 0 ((B.links.length:Int)-1))=0->Good B):=lH fun h=>gY (by
  unfold fF at h
  split at h
  ·assumption
  ·contradiction)
 have HW:Hid (Good B-> ∀u,aB u ⟨ta,la,pa,tc,lc,pc⟩ B->Vars u->Calls tP 64 #[.agg #[.int .i64 B.hours,.slice ta B.towns.length tc,.slice la B.links.length lc,.slice pa B.pairs.length pc],.int .i64 k] u fun e u'=>e= .returned (.int .i64 (kD B k))/\Below u.heap.size u u'):=lH fun hG u h1 h2=>(c89 ⟨ta,la,pa,tc,lc,pc⟩ B hG k u h1 h2).mono fun _ _ h=>⟨h.1,h.2.2⟩;clear hs hv hy;go_enter Tryz.func19,Tryz.ntmps19
 go_wp2_with fail
 have hr0:=ahT w 26 (.int .i64 B.hours) (.slice ta B.towns.length tc) (.slice la B.links.length lc) (.slice pa B.pairs.length pc);have hb0:=(bR w.heap.size w).alloc (nR _) (.cells #[.int .i64 B.hours,.slice ta B.towns.length tc,.slice la B.links.length lc,.slice pa B.pairs.length pc] 26);generalize w.alloc (.cells #[.int .i64 B.hours,.slice ta B.towns.length tc,.slice la B.links.length lc,.slice pa B.pairs.length pc] 26)=W at *;have HBW:=lH hb0;refine aiZ (BkV.val ⟨ta,la,pa,tc,lc,pc⟩ B) (.int .i64 k) (.agg #[.int .i64 B.hours,.slice ta B.towns.length tc,.slice la B.links.length lc,.slice pa B.pairs.length pc]) _ w.heap.size k la B.links.length lc (btw k 0 ((B.links.length:Int)-1)) h' ta' la' pa' tc' lc' pc' n1 n2 n3 (fF B (btw k 0 ((B.links.length:Int)-1))) W rfl hnl rfl B.hours ta pa B.towns.length B.pairs.length tc pc rfl hr0.c0 hr0.c1 hr0.c2 hr0.c3 (fun u hu=>(c69 k 0 _ u).mono fun e u' h=>⟨h.1,by rw[<-h.2];exact bR _ _⟩) (fun u hu=> ?_) fun b6 w1 hb6 hbw hrow=> ?_
 ·refine(c78 ⟨ta,la,pa,tc,lc,pc⟩ B _ u (Hs.out.below (HBW.out.trans (hu.mono HBW.out.size)) (nR _)) (Hv.out.v2.below (HBW.out.trans (hu.mono HBW.out.size)) (nR _))).mono ?_;rintro e u' ⟨rfl,hb⟩;exact⟨by rw[hres],hb⟩
 have HW1:=lH (HBW.out.trans (hbw.mono HBW.out.size));clear hres hb0 hr0 hbw;generalize fF B (btw k 0 ((B.links.length:Int)-1))=al at *;by_cases hal:al=0
 ·obtain⟨rfl,hU,rfl,rfl,rfl⟩:=Hy.out hal
  cases hU
  have hG:=HG.out hal;subst hal;have HE1:Hid (ah3 B k=if k<B.spokes then .tuple #[.int .i64 0,.int .i64 7] else .tuple #[.int .i64 (kD B k),.int .i64 0]):=lH (HE.out.trans (if_pos rfl));have hF:=hG.fine.towns;have Hsp:Hid ((B.towns.length:Int)-1=(B.spokes:Int)):=lH (by show _=((B.towns.length-1 :Nat):Int);omega);have H88:=lH (fun u=>c88 B.hours ta B.towns.length tc (.slice la B.links.length lc) (.slice pa B.pairs.length pc) u (by unfold maxLen;omega));obtain⟨hz',e0,e1,e2,e3,f0,f1,f2,f3⟩:=hrow;have hrow:=aij e0 e1 e2 e3 f0 f1 f2 f3
  go_wp2_with fail
  refine(H88.out _).mono ?_;rintro e w2 ⟨rfl,hb2⟩;rw[Hsp.out];have hr2:=hrow.below hb2 hrow.z;have HW2:=lH (HW1.out.trans (hb2.mono HW1.out.size));have hbk:=Hs.out.below HW2.out (nR _);have hvr:=Hv.out.below HW2.out;have Hbv:=lH (And.intro hbk hvr);clear e0 e1 e2 e3 f0 f1 f2 f3 hb2 hrow hbk hvr;obtain⟨_,e0,e1,e2,e3,f0,f1,f2,f3⟩:=hr2;by_cases hk:k<(B.spokes:Int)
  ·have HE2:=lH (HE1.out.trans (if_pos hk));go_wp2;refine bodyPost_ret (v:= .tuple #[.int .i64 0,.int .i64 7]) (by simp[results,Tryz.results19,go_sem]) rfl ⟨by rw[HE2.out],HW2.out⟩
  ·have HE2:=lH (HE1.out.trans (if_neg hk))
   go_wp2_with fail
   refine(HW.out hG _ Hbv.out.1 Hbv.out.2).mono ?_;rintro e w3 ⟨rfl,hb3⟩;have HW3:=lH (HW2.out.trans (hb3.mono HW2.out.size));generalize kD B k=wk at *;go_wp2;refine bodyPost_ret (v:= .tuple #[.int .i64 wk,.int .i64 0]) (by simp[results,Tryz.results19,go_sem]) rfl ⟨by rw[HE2.out],HW3.out⟩
 ·have hne:(al != 0)=true:=by simpa using hal
  have HE1:=lH (HE.out.trans (if_neg hal));go_wp2;refine bodyPost_ret (v:= .tuple #[.int .i64 0,.int .i64 al]) (by simp[results,Tryz.results19,go_sem]) rfl ⟨by rw[HE1.out],HW1.out⟩
theorem anA (V:BkV) (B:Bk) (hG:Good B) {w:World} (hs:aB w V B) (a:Option Addr) (c:Nat) (u:World) (hu:Below w.heap.size w u) (hm:SlI u a (List.replicate (B.links.length-B.spokes) 0)):
  Calls tP 58 #[V.val B,.slice a (B.links.length-B.spokes) c] u fun e u'=> ∃ba bc,e= .returned (.tuple #[.slice ba B.links.length bc,.int .i64 (aC B kC).2])/\SlI u' ba (aC B kC).1/\(aC B kC).1.length=B.links.length/\Below u.heap.size u u':=by
 have h:=r58 V B hG kC (List.replicate (B.links.length-B.spokes) 0) (by simp) (fun i hi=>by
  rw[List.length_replicate] at hi;unfold trk iY kC;rw[List.getD_eq_getElem?_getD,List.getElem?_replicate,if_pos hi];rfl) a c u (hs.below hu (nR _)) hm
 rwa [List.length_replicate] at h
theorem r18 (V:BkV) (B:Bk) (w:World) (hs:aB w V B) (hz: ∀t∈B.towns,t.size<=1000000):Calls tP 18 #[V.val B] w (ChQ w B kC):=by
 have hb0:Below w.heap.size w (w.alloc (.cells #[.int .i64 B.hours,.slice V.ta B.towns.length V.tc,.slice V.la B.links.length V.lc,.slice V.pa B.pairs.length V.pc] 26)):=(bR _ _).alloc (nR _) _;have HCk:=lH (c20 V B _ (hs.below hb0 (nR _)) hz);have HB0:=lH hb0;clear hb0 hz;by_cases hA:B.alarm=0
 ·have hG:=gY hA;have hll:=hG.fine.links;have htt:=hG.fine.towns;have hsp:B.spokes=B.towns.length-1:=rfl;obtain⟨n,hn⟩: ∃n,n=B.links.length-B.spokes:=⟨_,rfl⟩;have H58:Hid (∀a c u,Below w.heap.size w u->SlI u a (List.replicate n 0)->Calls tP 58 #[V.val B,.slice a n c] u _):=lH (fun a c u hu hm=>by rw[hn] at hm ⊢; exact anA V B hG hs a c u hu hm);have HEnd:Hid (∀a c w',SlI w' a (aC B kC).1->(aC B kC).1.length=B.links.length->Below w.heap.size w w'->ChQ w B kC (.returned (.tuple #[.slice a B.links.length c,.int .i64 (aC B kC).2,.int .i64 0])) w'):=lH fun a c w' h hl hb=>am0 hA hl h hb;have hw:IntKind.wrap .i64 ((B.links.length:Int)-((B.towns.length-1 :Nat):Int))=(n:Int):=by rw[IntWalk.i64_in _ (by omega)];omega
  have hmk:=ZV n (by omega);have ht1:1<=B.towns.length/\B.towns.length<=1000000:=by omega
  rw[hA] at HCk;generalize ChQ w B kC=Q at *;generalize aC B kC=R at *;obtain⟨ta,la,pa,tc,lc,pc⟩:=V;simp only[BkV.val] at *;clear hs hG hA hll htt hsp hn;go_enter Tryz.func18,Tryz.ntmps18
  go_wp2_with fail
  refine HCk.out.mono ?_;rintro e W ⟨rfl,hb1⟩;have HBW:=lH (HB0.out.trans (hb1.mono (by simp)));have HW:=lH (amL (V:=⟨ta,la,pa,tc,lc,pc⟩) (u:=W) (by simpa using hb1));clear hb1 HCk HB0;have hW1:Below W.heap.size W W.drew:=(bR _ _).drew;have HC: ∀u,Below W.heap.size W u->u.cell? ⟨w.heap.size,0,none⟩=some (.int .i64 B.hours)/\u.cell? ⟨w.heap.size,1,none⟩=some (.slice ta B.towns.length tc)/\u.cell? ⟨w.heap.size,2,none⟩=some (.slice la B.links.length lc)/\u.cell? ⟨w.heap.size,3,none⟩=some (.slice pa B.pairs.length pc):=fun u hu=>⟨cell_below hu HW.out.1 (nR _),cell_below hu HW.out.2.1 (nR _),cell_below hu HW.out.2.2.1 (nR _),cell_below hu HW.out.2.2.2 (nR _)⟩
  go_wp2_with fail
  refine aif 14 14 (fun u=>Below W.heap.size W u) (by kernel_rfl) ?_;refine ahN 0 (.agg #[.int .i64 B.hours,.slice ta B.towns.length tc,.slice la B.links.length lc,.slice pa B.pairs.length pc]) hW1 ?_ (hr:=fun u hu=>by obtain⟨c0x,c1x,c2x,c3x⟩:=HC u hu;go_simp);refine ahN 1 (.pointer (some ⟨w.heap.size,2,none⟩)) hW1 ?_ (hr:=fun u hu=>by go_simp);refine ahN 2 (.slice la B.links.length lc) hW1 ?_ (hr:=fun u hu=>by obtain⟨c0x,c1x,c2x,c3x⟩:=HC u hu;go_simp);refine ahN 3 (.int .i64 (B.links.length:Int)) hW1 ?_ (hr:=fun u hu=>by go_simp);refine ahN 4 (.agg #[.int .i64 B.hours,.slice ta B.towns.length tc,.slice la B.links.length lc,.slice pa B.pairs.length pc]) hW1 ?_ (hr:=fun u hu=>by obtain⟨c0x,c1x,c2x,c3x⟩:=HC u hu;go_simp);refine ahQ 5 (h:= ?_);refine ahW (f:=62) (args:= #[.agg #[.int .i64 B.hours,.slice ta B.towns.length tc,.slice la B.links.length lc,.slice pa B.pairs.length pc]]) (w':=W.drew) (by go_simp) ((c73 B.hours ta B.towns.length tc la B.links.length lc pa B.pairs.length pc W.drew ht1.1 ht1.2).mono ?_);rintro e u1 ⟨rfl,hb1⟩;have hs1:=hW1.trans (hb1.mono hW1.size);refine⟨_,rfl,fun _=>hs1, ?_⟩;refine ahN 6 (.int .i64 (n:Int)) hs1 ?_ (hr:=fun u hu=>by go_simp);refine ahQ 7 (h:=ah0 (v:= .slice (some ⟨u1.heap.size,0,none⟩) n n) (w':=u1.alloc (.cells (madeCells #[Value.int .i64 0] n) 3)) (by go_simp) ⟨fun _=>hs1.alloc hs1.size _, ?_⟩);have hm2:=ZW n u1;have hs2:=hs1.alloc hs1.size (.cells (madeCells #[Value.int .i64 0] n) 3);generalize u1.alloc (.cells (madeCells #[Value.int .i64 0] n) 3)=u2 at *;simp only[Act.put,List.setIfInBounds_toArray,List.set,List.getElem_toArray,List.getElem_cons_zero,List.getElem_cons_succ];refine ahQ 8 (h:= ?_);refine ahW (f:=58) (args:= #[.agg #[.int .i64 B.hours,.slice ta B.towns.length tc,.slice la B.links.length lc,.slice pa B.pairs.length pc],.slice (some ⟨u1.heap.size,0,none⟩) n n]) (w':=u2) (by go_simp) ((H58.out (some ⟨u1.heap.size,0,none⟩) n u2 (HBW.out.trans (hs2.mono HBW.out.size)) hm2).mono ?_);rintro e u3 ⟨ba,bc,rfl,hb9,hbl,hb3⟩;have hs3:=hs2.trans (hb3.mono hs2.size);refine⟨_,rfl,fun _=>hs3, ?_⟩;refine ahN 9 (.tuple #[.slice ba B.links.length bc,.int .i64 R.2]) hs3 ?_ (hr:=fun u hu=>by go_simp);refine ahN 10 (.slice ba B.links.length bc) hs3 ?_ (hr:=fun u hu=>by go_simp);refine ahN 11 (.int .i64 R.2) hs3 ?_ (hr:=fun u hu=>by go_simp);refine ahN 12 (.slice ba B.links.length bc) hs3 ?_ (hr:=fun u hu=>by go_simp);refine ahN 13 (.int .i64 R.2) hs3 ?_ (hr:=fun u hu=>by go_simp);refine ahZ ?_;go_simp;have HF:=lH (HEnd.out ba bc u3 hb9 hbl (HBW.out.trans (hs3.mono HBW.out.size)));clear hs1 hs2 hs3 hb1 hb3 hb9 HC hW1 hbl hm2;go_wp2;refine bodyPost_ret (v:= .tuple #[.slice ba B.links.length bc,.int .i64 R.2,.int .i64 0]) (by simp[results,Tryz.results18,go_sem]) rfl ?_;exact HF.out
 ·have HEnd:Hid (∀w',Below w.heap.size w w'->ChQ w B kC (.returned (.tuple #[.slice none 0 0,.int .i64 0,.int .i64 B.alarm])) w'):=lH fun w' hb=>am1 hA hb;generalize ChQ w B kC=Q at *;generalize B.alarm=al at *;obtain⟨ta,la,pa,tc,lc,pc⟩:=V;simp only[BkV.val] at *;clear hs;go_enter Tryz.func18,Tryz.ntmps18
  go_wp2_with fail
  refine HCk.out.mono ?_;rintro e w1 ⟨rfl,hb1⟩;have HB1:=lH (HB0.out.trans (hb1.mono (by simp)));clear hb1 HCk HB0;go_wp2;refine bodyPost_ret (v:= .tuple #[.slice none 0 0,.int .i64 0,.int .i64 al]) (by simp[results,Tryz.results18,go_sem]) rfl ?_;exact HEnd.out _ HB1.out
theorem r65 (V:BkV) (B:Bk) (hG:Good B) (x:Int) (w:World) (hs:aB w V B):Calls tP 65 #[V.val B,.int .i64 x] w fun e w'=>e= .returned (.int .i64 (kD B x))/\Below w.heap.size w w':=by
 have hb0:Below w.heap.size w (w.alloc (.cells #[.int .i64 B.hours,.slice V.ta B.towns.length V.tc,.slice V.la B.links.length V.lc,.slice V.pa B.pairs.length V.pc] 26)):=(bR _ _).alloc (nR _) _;have H59m:Hid (∀u,Calls tP 59 #[V.val B,.int .i64 (-1)] u _):=lH (fun u=>am2 V B hG.fine (-1) u);have H58m:Hid (∀a c u,Below w.heap.size w u->SlI u a (amE B (-1) (B.links.length-B.spokes))->Calls tP 58 #[V.val B,.slice a (B.links.length-B.spokes) c] u _):=lH (fun a c u hu hm=>am3 V B hG (-1) hs a c u hu hm);have H59x:Hid (∀u,Calls tP 59 #[V.val B,.int .i64 x] u _):=lH (fun u=>am2 V B hG.fine x u);have H58x:Hid (∀a c u,Below w.heap.size w u->SlI u a (amE B x (B.links.length-B.spokes))->Calls tP 58 #[V.val B,.slice a (B.links.length-B.spokes) c] u _):=lH (fun a c u hu hm=>am3 V B hG x hs a c u hu hm);rw[ang] at H58m;have hf1:=amS hG aT;have hf2:=amS hG (mJ x);have HWo:Hid (kD B x=(aC B (mJ x)).2-(aC B aT).2):=lH rfl;rw[HWo.out];generalize aC B aT=R at *;generalize aC B (mJ x)=S at *;have hw:IntKind.wrap .i64 (S.2-R.2)=S.2-R.2:=IntWalk.i64_in _ (by omega);have HB0:=lH hb0;obtain⟨ta,la,pa,tc,lc,pc⟩:=V;simp only[BkV.val] at *;clear hs hG hb0 hf1 hf2 HWo;go_enter Tryz.func65,Tryz.ntmps65
 go_wp2_with fail
 generalize hWd:w.alloc (.cells #[.int .i64 B.hours,.slice ta B.towns.length tc,.slice la B.links.length lc,.slice pa B.pairs.length pc] 26)=W;have HBW:Hid (Below w.heap.size w W):=lH (by subst hWd;exact HB0.out);have HW:Hid (W.cell? ⟨w.heap.size,0,none⟩=some (.int .i64 B.hours)/\W.cell? ⟨w.heap.size,1,none⟩=some (.slice ta B.towns.length tc)/\W.cell? ⟨w.heap.size,2,none⟩=some (.slice la B.links.length lc)/\W.cell? ⟨w.heap.size,3,none⟩=some (.slice pa B.pairs.length pc)):=lH (by subst hWd;exact⟨by go_simp,by go_simp,by go_simp,by go_simp⟩);clear hWd HB0;have hW1:Below W.heap.size W W.drew:=(bR _ _).drew;have HC: ∀u,Below W.heap.size W u->u.cell? ⟨w.heap.size,0,none⟩=some (.int .i64 B.hours)/\u.cell? ⟨w.heap.size,1,none⟩=some (.slice ta B.towns.length tc)/\u.cell? ⟨w.heap.size,2,none⟩=some (.slice la B.links.length lc)/\u.cell? ⟨w.heap.size,3,none⟩=some (.slice pa B.pairs.length pc):=fun u hu=>⟨cell_below hu HW.out.1 (nR _),cell_below hu HW.out.2.1 (nR _),cell_below hu HW.out.2.2.1 (nR _),cell_below hu HW.out.2.2.2 (nR _)⟩;refine aif 9 9 (fun u=>Below W.heap.size W u) (by kernel_rfl) ?_;refine ahN 0 (.agg #[.int .i64 B.hours,.slice ta B.towns.length tc,.slice la B.links.length lc,.slice pa B.pairs.length pc]) hW1 ?_ (hr:=fun u hu=>by obtain⟨c0x,c1x,c2x,c3x⟩:=HC u hu;go_simp);refine ahN 1 (.agg #[.int .i64 B.hours,.slice ta B.towns.length tc,.slice la B.links.length lc,.slice pa B.pairs.length pc]) hW1 ?_ (hr:=fun u hu=>by obtain⟨c0x,c1x,c2x,c3x⟩:=HC u hu;go_simp);refine ahQ 2 (h:= ?_);refine ahW (f:=59) (args:= #[.agg #[.int .i64 B.hours,.slice ta B.towns.length tc,.slice la B.links.length lc,.slice pa B.pairs.length pc],.int .i64 (-1)]) (w':=W.drew) (by go_simp) ((H59m.out W.drew).mono ?_);rintro e u1 ⟨a1,c1,rfl,hm1,hb1⟩;have hs1:=hW1.trans (hb1.mono hW1.size);refine⟨_,rfl,fun _=>hs1, ?_⟩;refine ahQ 3 (h:= ?_);refine ahW (f:=58) (args:= #[.agg #[.int .i64 B.hours,.slice ta B.towns.length tc,.slice la B.links.length lc,.slice pa B.pairs.length pc],.slice a1 (B.links.length-B.spokes) c1]) (w':=u1) (by go_simp) ((H58m.out a1 c1 u1 (HBW.out.trans (hs1.mono HBW.out.size)) hm1).mono ?_);rintro e u2 ⟨b1,bc1,rfl,hb1,hbl1,hb2⟩;have hs2:=hs1.trans (hb2.mono hs1.size);refine⟨_,rfl,fun _=>hs2, ?_⟩;refine ahN 4 (.tuple #[.slice b1 B.links.length bc1,.int .i64 R.2]) hs2 ?_ (hr:=fun u hu=>by go_simp);refine ahN 5 (.slice b1 B.links.length bc1) hs2 ?_ (hr:=fun u hu=>by go_simp);refine ahN 6 (.int .i64 R.2) hs2 ?_ (hr:=fun u hu=>by go_simp);refine ahN 7 (.slice b1 B.links.length bc1) hs2 ?_ (hr:=fun u hu=>by go_simp);refine ahN 8 (.int .i64 R.2) hs2 ?_ (hr:=fun u hu=>by go_simp);refine ahZ ?_;go_simp;have HS2:=lH hs2;clear hs1 hs2 hb1 hb2 hW1 hbl1 hm1;obtain⟨U,hU⟩: ∃q,q=u2:=⟨_,rfl⟩;subst hU;have hW2:Below W.heap.size W U.drew:=HS2.out.drew
 go_wp2_with fail
 refine aif 10 10 (fun u=>Below W.heap.size W u) (by kernel_rfl) ?_;refine ahN 0 (.agg #[.int .i64 B.hours,.slice ta B.towns.length tc,.slice la B.links.length lc,.slice pa B.pairs.length pc]) hW2 ?_ (hr:=fun u hu=>by obtain⟨c0x,c1x,c2x,c3x⟩:=HC u hu;go_simp);refine ahN 1 (.agg #[.int .i64 B.hours,.slice ta B.towns.length tc,.slice la B.links.length lc,.slice pa B.pairs.length pc]) hW2 ?_ (hr:=fun u hu=>by obtain⟨c0x,c1x,c2x,c3x⟩:=HC u hu;go_simp);refine ahN 2 (.int .i64 x) hW2 ?_ (hr:=fun u hu=>by go_simp);refine ahQ 3 (h:= ?_);refine ahW (f:=59) (args:= #[.agg #[.int .i64 B.hours,.slice ta B.towns.length tc,.slice la B.links.length lc,.slice pa B.pairs.length pc],.int .i64 x]) (w':=U.drew) (by go_simp) ((H59x.out U.drew).mono ?_);rintro e u1 ⟨a2,c2,rfl,hm2,hb1⟩;have hs1:=hW2.trans (hb1.mono hW2.size);refine⟨_,rfl,fun _=>hs1, ?_⟩;refine ahQ 4 (h:= ?_);refine ahW (f:=58) (args:= #[.agg #[.int .i64 B.hours,.slice ta B.towns.length tc,.slice la B.links.length lc,.slice pa B.pairs.length pc],.slice a2 (B.links.length-B.spokes) c2]) (w':=u1) (by go_simp) ((H58x.out a2 c2 u1 (HBW.out.trans (hs1.mono HBW.out.size)) hm2).mono ?_);rintro e u2 ⟨b2,bc2,rfl,hb2,hbl2,hb2⟩;have hs2:=hs1.trans (hb2.mono hs1.size);refine⟨_,rfl,fun _=>hs2, ?_⟩;refine ahN 5 (.tuple #[.slice b2 B.links.length bc2,.int .i64 S.2]) hs2 ?_ (hr:=fun u hu=>by go_simp);refine ahN 6 (.slice b2 B.links.length bc2) hs2 ?_ (hr:=fun u hu=>by go_simp);refine ahN 7 (.int .i64 S.2) hs2 ?_ (hr:=fun u hu=>by go_simp);refine ahN 8 (.slice b2 B.links.length bc2) hs2 ?_ (hr:=fun u hu=>by go_simp);refine ahN 9 (.int .i64 S.2) hs2 ?_ (hr:=fun u hu=>by go_simp);refine ahZ ?_;go_simp;have HS3:=lH (HBW.out.trans (hs2.mono HBW.out.size));clear hs1 hs2 hb1 hb2 HC hW2 hbl2 hm2;go_wp2;go_ret;exact⟨rfl,HS3.out⟩
theorem r20 (V:BkV) (B:Bk) (k:Int) (w:World) (hs:aB w V B) (hz: ∀t∈B.towns,t.size<=1000000):Calls tP 20 #[V.val B,.int .i64 k] w fun e w'=>e= .returned (ah3 B k)/\Below w.heap.size w w':=by
 have hb0:Below w.heap.size w (w.alloc (.cells #[.int .i64 B.hours,.slice V.ta B.towns.length V.tc,.slice V.la B.links.length V.lc,.slice V.pa B.pairs.length V.pc] 26)):=(bR _ _).alloc (nR _) _;have HCk:=lH (c20 V B _ (hs.below hb0 (nR _)) hz);have HB0:=lH hb0;clear hb0 hz;by_cases hA:B.alarm=0
 ·have hG:=gY hA;have hll:=hG.fine.links;have htt:=hG.fine.towns;have hsp:B.spokes=B.towns.length-1:=rfl;have hw:IntKind.wrap .i64 ((B.links.length:Int)-1)=(B.links.length:Int)-1:=IntWalk.i64_in _ (by omega);have H65:Hid (∀u,Below w.heap.size w u->Calls tP 65 #[V.val B,.int .i64 k] u _):=lH fun u hu=>r65 V B hG k u (hs.below hu (nR _));have HR:Hid (ah3 B k=if btw k 0 ((B.links.length:Int)-1)=true then (if k<B.spokes then .tuple #[.int .i64 0,.int .i64 7] else .tuple #[.int .i64 (kD B k),.int .i64 0]) else .tuple #[.int .i64 0,.int .i64 6]):=lH (by
   unfold ah3 fF;rw[if_pos hA]
   cases btw k 0 ((B.links.length:Int)-1)<;>rfl)
  rw[HR.out];rw[hsp];rw[hA] at HCk;have ht1:1<=B.towns.length/\B.towns.length<=1000000:=by omega
  generalize kD B k=F at *;obtain⟨ta,la,pa,tc,lc,pc⟩:=V;simp only[BkV.val] at *;clear hs hG hA hll htt HR hsp;obtain⟨q,hq⟩: ∃q,q=(B.links.length:Int)-1:=⟨_,rfl⟩;have hw2:=hw.trans hq.symm;clear hw;rw[<-hq];have HQ:=lH hq;clear hq
  cases hbt:btw k 0 q with
  |false=>
   go_enter Tryz.func20,Tryz.ntmps20
   go_wp2_with fail
   refine HCk.out.mono ?_;rintro e W ⟨rfl,hb1⟩;have HBW:=lH (HB0.out.trans (hb1.mono (by simp)));obtain⟨p0,p1,p2,p3⟩:=amL (V:=⟨ta,la,pa,tc,lc,pc⟩) (u:=W) (by simpa using hb1);clear hb1 HCk HB0
   go_wp2_with fail
   refine(gU _ _ _ _).mono ?_;rintro e w2 ⟨rfl,rfl⟩;rw[hbt];go_wp2
   go_ret2
   exact⟨rfl,HBW.out⟩
  |true=>
   go_enter Tryz.func20,Tryz.ntmps20
   go_wp2_with fail
   refine HCk.out.mono ?_;rintro e W ⟨rfl,hb1⟩;have HBW:=lH (HB0.out.trans (hb1.mono (by simp)));obtain⟨p0,p1,p2,p3⟩:=amL (V:=⟨ta,la,pa,tc,lc,pc⟩) (u:=W) (by simpa using hb1);have HP:=lH (And.intro p0 (And.intro p1 (And.intro p2 p3)));clear hb1 HCk HB0
   go_wp2_with fail
   refine(gU _ _ _ _).mono ?_;rintro e w2 ⟨rfl,rfl⟩;rw[hbt]
   go_wp2_with fail
   refine(c73 B.hours ta B.towns.length tc la B.links.length lc pa B.pairs.length pc _ ht1.1 ht1.2).mono ?_;rintro e w3 ⟨rfl,hb3⟩;have HB3:=lH (HBW.out.trans (hb3.mono HBW.out.size));obtain⟨x0,x1,x2,x3⟩:=HP.out;have y0:=cell_below hb3 x0 (nR _);have y1:=cell_below hb3 x1 (nR _);have y2:=cell_below hb3 x2 (nR _);have y3:=cell_below hb3 x3 (nR _);clear hb3 p0 p1 p2 p3 x0 x1 x2 x3;by_cases hks:k<((B.towns.length-1 :Nat):Int)
   ·go_wp2
    go_ret2
    exact⟨by simp,HB3.out⟩
   ·go_wp2_with fail
    refine(H65.out w3 HB3.out).mono ?_;rintro e w4 ⟨rfl,hb4⟩;have HB4:=lH (HB3.out.trans (hb4.mono HB3.out.size));clear hb4 y0 y1 y2 y3;go_wp2
    go_ret2
    exact⟨by simp,HB4.out⟩
 ·have HR:Hid (ah3 B k= .tuple #[.int .i64 0,.int .i64 B.alarm]):=lH (by unfold ah3 fF;rw[if_neg hA,if_neg hA]);rw[HR.out];generalize B.alarm=al at *;clear HR;obtain⟨ta,la,pa,tc,lc,pc⟩:=V;simp only[BkV.val] at *;clear hs;go_enter Tryz.func20,Tryz.ntmps20
  go_wp2_with fail
  refine HCk.out.mono ?_;rintro e w1 ⟨rfl,hb1⟩;have HB1:=lH (HB0.out.trans (hb1.mono (by simp)));clear hb1 HCk HB0;go_wp2
  go_ret2
  exact⟨rfl,HB1.out⟩
theorem anB {B:Bk} (hG:Good B) (k:Int): -17820<=kD B k/\kD B k<=17820:=by
 have h1:=amS hG aT;have h2:=amS hG (mJ k);unfold kD;omega
theorem r22 (V:BkV) (B:Bk) (w:World) (hs:aB w V B) (hz: ∀t∈B.towns,t.size<=1000000):Calls tP 22 #[V.val B] w fun e w'=>e= .returned (oU B)/\Below w.heap.size w w':=by
 have hb0:Below w.heap.size w (w.alloc (.cells #[.int .i64 B.hours,.slice V.ta B.towns.length V.tc,.slice V.la B.links.length V.lc,.slice V.pa B.pairs.length V.pc] 26)):=(bR _ _).alloc (nR _) _;have HCk:=lH (c20 V B _ (hs.below hb0 (nR _)) hz);have HB0:=lH hb0;clear hb0 hz;by_cases hA:B.alarm=0
 ·have hG:=gY hA;have hll:=hG.fine.links;have htt:=hG.fine.towns;have hsp:B.spokes=B.towns.length-1:=rfl;have H65:Hid (∀(k:Nat) u,Below w.heap.size w u->Calls tP 65 #[V.val B,.int .i64 (k:Int)] u _):=lH fun k u hu=>r65 V B hG (k:Int) u (hs.below hu (nR _));have HE:Hid (oU B= .tuple #[.int .i64 (mM B).1,.int .i64 (mM B).2,.int .i64 0]):=lH (by unfold oU;rw[if_pos hA]);have HL:Hid (mM B=oQ B (B.links.length-(B.towns.length-1)) (B.towns.length-1) (-1,0)):=lH rfl;have HSt:Hid (∀(k:Nat) (x y:Int),k<B.links.length->oQ B (B.links.length-k) k (x,y)=oQ B (B.links.length-(k+1)) (k+1) (if y<kD B (k:Int) then ((k:Int),kD B (k:Int)) else (x,y))):=lH fun k x y hk=>aag hk (x,y);have HEn:Hid (∀x y,oQ B 0 B.links.length (x,y)=(x,y)):=lH fun x y=>rfl;have HWb:Hid (∀k:Nat,-17820<=kD B (k:Int)/\kD B (k:Int)<=17820):=lH fun k=>anB hG _;rw[HE.out];rw[hA] at HCk;have ht1:1<=B.towns.length/\B.towns.length<=4:=by omega
  have hl6:=hll.2;have hsl:B.towns.length-1<=B.links.length:=hll.1;generalize mM B=R at *;generalize oQ B=D at *;generalize hWO:(fun k:Nat=>kD B (k:Int))=WO;have hWO': ∀k:Nat,kD B (k:Int)=WO k:=fun k=>by rw[<-hWO]
  simp only[hWO'] at H65 HSt HWb;obtain⟨ta,la,pa,tc,lc,pc⟩:=V;simp only[BkV.val] at *;clear hs hG hA hll htt HE hsp hWO hWO';go_enter Tryz.func22,Tryz.ntmps22
  go_wp2_with fail
  refine HCk.out.mono ?_;rintro e w1 ⟨rfl,hb1⟩;have HB1:=lH (HB0.out.trans (hb1.mono (by simp)));obtain⟨p0,p1,p2,p3⟩:=amL (V:=⟨ta,la,pa,tc,lc,pc⟩) (u:=w1) (by simpa using hb1);clear hb1 HCk HB0
  go_wp2_with fail
  refine(c73 B.hours ta B.towns.length tc la B.links.length lc pa B.pairs.length pc _ ht1.1 (by omega)).mono ?_;rintro e W ⟨rfl,hb2⟩;have HBW:=lH (HB1.out.trans (hb2.mono HB1.out.size));have HW:Hid (W.cell? ⟨w.heap.size,0,none⟩=some (.int .i64 B.hours)/\W.cell? ⟨w.heap.size,1,none⟩=some (.slice ta B.towns.length tc)/\W.cell? ⟨w.heap.size,2,none⟩=some (.slice la B.links.length lc)/\W.cell? ⟨w.heap.size,3,none⟩=some (.slice pa B.pairs.length pc)):=lH ⟨cell_below hb2 p0 (nR _),cell_below hb2 p1 (nR _),cell_below hb2 p2 (nR _),cell_below hb2 p3 (nR _)⟩;clear hb2 p0 p1 p2 p3 HB1
  go_wp2_with fail
  go_loopw [6,7,8] (fun a b i wr=> ∃(k:Nat) (x y:Int),B.towns.length-1<=k/\k<=B.links.length/\a= .int .i64 x/\b= .int .i64 y/\i= .int .i64 (k:Int)/\R=D (B.links.length-k) k (x,y)/\Below W.heap.size W wr) (fun _ _ i _=>B.links.length-(intOf i).toNat)
  case atStart=>exact⟨B.towns.length-1,-1,0,nR _,hsl,rfl,rfl,rfl,HL.out,bR _ _⟩
  case round=>
   obtain⟨k,x,y,hk0,hk1,rfl,rfl,rfl,hbd,hb⟩:=hrel;have Hbd:=lH hbd;have Hb:=lH hb;clear hbd hb;obtain⟨x0,x1,x2,x3⟩:=HW.out;have p0:=cell_below Hb.out x0 (nR _);have p1:=cell_below Hb.out x1 (nR _);have p2:=cell_below Hb.out x2 (nR _);have p3:=cell_below Hb.out x3 (nR _);clear x0 x1 x2 x3;by_cases hlt:k<B.links.length
   ·have hlt':(k:Int)<(B.links.length:Int):=by omega
    have HCw:=lH (H65.out k wr (HBW.out.trans (Hb.out.mono HBW.out.size)));have hst:=HSt.out k x y hlt;have hwb:=HWb.out k;generalize WO k=wk at *;by_cases hgt:y<wk
    ·rw[if_pos hgt] at hst;have Hst:=lH (Hbd.out.trans hst);clear hst
     go_wp2_with fail
     refine HCw.out.mono ?_;rintro e w3 ⟨rfl,hb3⟩;have Hb3:=lH (Hb.out.trans (hb3.mono Hb.out.size));clear hb3 HCw p0 p1 p2 p3;go_wp2;go_roundw
     case rel=>exact⟨k+1,(k:Int),wk,by omega,by omega,rfl,rfl,by go_num,Hst.out,Hb3.out⟩
     case measure=>simp[intOf];omega
    ·rw[if_neg hgt] at hst;have Hst:=lH (Hbd.out.trans hst);clear hst
     go_wp2_with fail
     refine HCw.out.mono ?_;rintro e w3 ⟨rfl,hb3⟩;have Hb3:=lH (Hb.out.trans (hb3.mono Hb.out.size));clear hb3 HCw p0 p1 p2 p3;go_wp2;go_roundw
     case rel=>exact⟨k+1,x,y,by omega,by omega,rfl,rfl,by go_num,Hst.out,Hb3.out⟩
     case measure=>simp[intOf];omega
   ·have hke:k=B.links.length:=by omega
    have HR:Hid (R=(x,y)):=lH (by have h:=Hbd.out;rw[hke,Nat.sub_self] at h;rw[h,HEn.out]);have hlt': ¬(k:Int)<(B.links.length:Int):=by omega
    have HBf:=lH (HBW.out.trans (Hb.out.mono HBW.out.size));clear hke;go_wp2
    go_ret3
    exact⟨by rw[HR.out]<;>rfl,HBf.out⟩
 ·have HR:Hid (oU B= .tuple #[.int .i64 0,.int .i64 0,.int .i64 B.alarm]):=lH (by unfold oU;rw[if_neg hA]);rw[HR.out];generalize B.alarm=al at *;clear HR;obtain⟨ta,la,pa,tc,lc,pc⟩:=V;simp only[BkV.val] at *;clear hs;go_enter Tryz.func22,Tryz.ntmps22
  go_wp2_with fail
  refine HCk.out.mono ?_;rintro e w1 ⟨rfl,hb1⟩;have HB1:=lH (HB0.out.trans (hb1.mono (by simp)));clear hb1 HCk HB0;go_wp2
  go_ret3
  exact⟨rfl,HB1.out⟩
theorem bI.kept {w w':World} {n:Nat} {V:BkV} {B:Bk} {O:qZ} (h:bI w n V B O) (hk:Kept w.heap.size w w'):bI w' n V B O:=by
 have c: ∀{b o:Nat} {v:Value},w.cell? ⟨b,o,none⟩=some v->w'.cell? ⟨b,o,none⟩=some v:=fun h=>dV hk (nR _) h;have hrp:bG w' V.pa:=fun a e=>by
  obtain⟨x,t,z,h0⟩:=h.rp a e;exact⟨x,t,z,(hk.block _ (Array.getElem?_eq_some_iff.1 h0).1).trans h0⟩
 refine⟨h.ta,h.la,h.pa,h.pc,hrp,h.tc,fun i t ht=>c (h.towns i t ht),fun i L hL=> ?_,fun i L k s hL hs=> ?_,fun i p hp=> ?_,fun i p k x hp hx=> ?_,fun i p hp=> ?_,h.dis,h.lo⟩
 ·obtain⟨h0,h1,sc,h2⟩:=h.links i L hL;exact⟨c h0,c h1,sc,c h2⟩
 ·exact⟨c (h.steps i L k s hL hs).1,c (h.steps i L k s hL hs).2⟩
 ·obtain⟨h0,h1,sc,h2⟩:=h.pairs i p hp;exact⟨c h0,c h1,sc,c h2⟩
 ·exact⟨c (h.calls i p k x hp hx).1,c (h.calls i p k x hp hx).2⟩
 ·have:=h.free i p hp;exact⟨⟨Nat.lt_of_lt_of_le this.1.1 hk.size,this.1.2⟩,fun j=>by rw[hk.frozen (p:=⟨_,j,none⟩) this.1.1];exact this.2 j⟩
structure afY (w:World) (b:Nat) (V:BkV) (B:Bk):Prop where
 c0:w.cell? ⟨b,0,none⟩=some (.int .i64 B.hours)
 c1:w.cell? ⟨b,1,none⟩=some (.slice V.ta B.towns.length V.tc)
 c2:w.cell? ⟨b,2,none⟩=some (.slice V.la B.links.length V.lc)
 c3:w.cell? ⟨b,3,none⟩=some (.slice V.pa B.pairs.length V.pc)
 lt:b<w.heap.size
 fr: ∀j,w.frozen? ⟨b,j,none⟩=false
theorem afY.kept {w w':World} {b:Nat} {V:BkV} {B:Bk} (h:afY w b V B) (hk:Kept w.heap.size w w'):afY w' b V B:=
 ⟨dV hk (nR _) h.c0,dV hk (nR _) h.c1,dV hk (nR _) h.c2,dV hk (nR _) h.c3,Nat.lt_of_lt_of_le h.lt hk.size,fun j=>by rw[hk.frozen (p:=⟨b,j,none⟩) h.lt];exact h.fr j⟩
section
variable {f:FuncId} {N d s t:Nat} {a:Act} {w:World} {l:List (Nat×Value)} {ops:Array Oper} {i j:Nat} {rest:List Nat} {kk:List Item} {R:Value->World->Prop} {o o2:Oper}
end
section
variable {u:World} {b1:Nat} {V:BkV} {B:Bk} {xs:List Int} {xa:Option Addr} {xc:Nat} {n:Int}
theorem anC {v0:Value} (hB:dL u b1 V B) (hx:SlI u xa xs) (hxl:xs.length<=1000000) (hv:oM B xs=v0):iK tP 12 #[V.val B,.slice xa xs.length xc] u fun v w'=>v=v0/\Kept u.heap.size u w':=by
 subst hv;exact acs (X:=fun v _=>v=oM B xs) (fun _ _ _ h _=>h) fun τ=>(c40 V B xs xa xc (u.tp τ 0 noJ) (hB.kept jD).book (hB.kept jD).vars (hx.kept jD) hxl).mono fun _ _ ⟨e1,hb⟩=>⟨_,e1,rfl,hb⟩
theorem anD {v0:Value} (hB:dL u b1 V B) (hz: ∀t∈B.towns,t.size<=1000000) (hx:SlI u xa xs) (hxl:xs.length<=1000000) (hv:oM B xs=v0):iK tP 13 #[V.val B,.slice xa xs.length xc] u fun v w'=>v=v0/\Kept u.heap.size u w':=by
 subst hv;exact acs (X:=fun v _=>v=oM B xs) (fun _ _ _ h _=>h) fun τ=>(r13 V B xs xa xc (u.tp τ 0 noJ) (hB.kept jD).book hz (hx.kept jD) hxl).mono fun _ _ ⟨e1,hb⟩=>⟨_,e1,rfl,hb⟩
theorem anE {v0:Value} (hB:dL u b1 V B) (hv:ah3 B n=v0):iK tP 19 #[V.val B,.int .i64 n] u fun v w'=>v=v0/\Kept u.heap.size u w':=by
 subst hv;exact acs (X:=fun v _=>v=ah3 B n) (fun _ _ _ h _=>h) fun τ=>(c51 V B n (u.tp τ 0 noJ) (hB.kept jD).book (hB.kept jD).vars).mono fun _ _ ⟨e1,hb⟩=>⟨_,e1,rfl,hb⟩
theorem anF {v0:Value} (hB:dL u b1 V B) (hz: ∀t∈B.towns,t.size<=1000000) (hv:ah3 B n=v0):iK tP 20 #[V.val B,.int .i64 n] u fun v w'=>v=v0/\Kept u.heap.size u w':=by
 subst hv;exact acs (X:=fun v _=>v=ah3 B n) (fun _ _ _ h _=>h) fun τ=>(r20 V B n (u.tp τ 0 noJ) (hB.kept jD).book hz).mono fun _ _ ⟨e1,hb⟩=>⟨_,e1,rfl,hb⟩
theorem anG {v0:Value} (hB:dL u b1 V B) (hv:oU B=v0):iK tP 21 #[V.val B] u fun v w'=>v=v0/\Kept u.heap.size u w':=by
 subst hv;exact acs (X:=fun v _=>v=oU B) (fun _ _ _ h _=>h) fun τ=>(c50 V B (u.tp τ 0 noJ) (hB.kept jD).book (hB.kept jD).vars).mono fun _ _ ⟨e1,hb⟩=>⟨_,e1,rfl,hb⟩
theorem anH {v0:Value} (hB:dL u b1 V B) (hz: ∀t∈B.towns,t.size<=1000000) (hv:oU B=v0):iK tP 22 #[V.val B] u fun v w'=>v=v0/\Kept u.heap.size u w':=by
 subst hv;exact acs (X:=fun v _=>v=oU B) (fun _ _ _ h _=>h) fun τ=>(r22 V B (u.tp τ 0 noJ) (hB.kept jD).book hz).mono fun _ _ ⟨e1,hb⟩=>⟨_,e1,rfl,hb⟩
theorem anI {lo:List Int} {n s:Int} (hB:dL u b1 V B) (hlo:rowOf B aT=lo) (hn:amG B aT=n) (hs:B.alarm=s):
  iK tP 14 #[V.val B] u fun v w'=>(∃sa cap,v= .tuple #[.slice sa lo.length cap,.int .i64 n,.int .i64 s]/\SlI w' sa lo)/\Kept u.heap.size u w':=by
 subst hlo hn hs;exact acs (X:=fun v w'=> ∃sa cap,v= .tuple #[.slice sa (rowOf B aT).length cap,.int .i64 (amG B aT),.int .i64 B.alarm]/\SlI w' sa (rowOf B aT)) (fun _ _ _ ⟨a,b,e,s⟩ k=>⟨a,b,e,s.kept k⟩) fun τ=>
  (c39 V B (u.tp τ 0 noJ) (hB.kept jD).book (hB.kept jD).vars).mono fun _ _ h=>by
   obtain⟨sa,cap,e,hs,hb⟩:=anh h;exact⟨_,e,⟨sa,cap,rfl,hs⟩,hb⟩
theorem anJ {lo:List Int} {n s:Int} (hB:dL u b1 V B) (hz: ∀t∈B.towns,t.size<=1000000) (hlo:rowOf B aT=lo) (hn:amG B aT=n) (hs:B.alarm=s):
  iK tP 15 #[V.val B] u fun v w'=>(∃sa cap,v= .tuple #[.slice sa lo.length cap,.int .i64 n,.int .i64 s]/\SlI w' sa lo)/\Kept u.heap.size u w':=by
 subst hlo hn hs;exact acs (X:=fun v w'=> ∃sa cap,v= .tuple #[.slice sa (rowOf B aT).length cap,.int .i64 (amG B aT),.int .i64 B.alarm]/\SlI w' sa (rowOf B aT)) (fun _ _ _ ⟨a,b,e,s⟩ k=>⟨a,b,e,s.kept k⟩) fun τ=>
  (r15 V B (u.tp τ 0 noJ) (hB.kept jD).book hz).mono fun _ _ h=>by
   obtain⟨sa,cap,e,hs,hb⟩:=h;exact⟨_,e,⟨sa,cap,rfl,hs⟩,hb⟩
theorem anK {lo:List Int} {n s:Int} (hB:dL u b1 V B) (hlo:rowOf B kC=lo) (hn:amG B kC=n) (hs:B.alarm=s):
  iK tP 17 #[V.val B] u fun v w'=>(∃sa cap,v= .tuple #[.slice sa lo.length cap,.int .i64 n,.int .i64 s]/\SlI w' sa lo)/\Kept u.heap.size u w':=by
 subst hlo hn hs;exact acs (X:=fun v w'=> ∃sa cap,v= .tuple #[.slice sa (rowOf B kC).length cap,.int .i64 (amG B kC),.int .i64 B.alarm]/\SlI w' sa (rowOf B kC)) (fun _ _ _ ⟨a,b,e,s⟩ k=>⟨a,b,e,s.kept k⟩) fun τ=>
  (c49 V B (u.tp τ 0 noJ) (hB.kept jD).book (hB.kept jD).vars).mono fun _ _ h=>by
   obtain⟨sa,cap,e,hs,hb⟩:=anh h;exact⟨_,e,⟨sa,cap,rfl,hs⟩,hb⟩
theorem anL {lo:List Int} {n s:Int} (hB:dL u b1 V B) (hz: ∀t∈B.towns,t.size<=1000000) (hlo:rowOf B kC=lo) (hn:amG B kC=n) (hs:B.alarm=s):
  iK tP 18 #[V.val B] u fun v w'=>(∃sa cap,v= .tuple #[.slice sa lo.length cap,.int .i64 n,.int .i64 s]/\SlI w' sa lo)/\Kept u.heap.size u w':=by
 subst hlo hn hs;exact acs (X:=fun v w'=> ∃sa cap,v= .tuple #[.slice sa (rowOf B kC).length cap,.int .i64 (amG B kC),.int .i64 B.alarm]/\SlI w' sa (rowOf B kC)) (fun _ _ _ ⟨a,b,e,s⟩ k=>⟨a,b,e,s.kept k⟩) fun τ=>
  (r18 V B (u.tp τ 0 noJ) (hB.kept jD).book hz).mono fun _ _ h=>by
   obtain⟨sa,cap,e,hs,hb⟩:=h;exact⟨_,e,⟨sa,cap,rfl,hs⟩,hb⟩
theorem amb {lo:List Int} {sa sb:Option Addr} {ka kb:Nat} (h1:SlI u sa lo) (h2:SlI u sb lo) (hl:lo.length<=1000000):iK tP 16 #[.slice sa lo.length ka,.slice sb lo.length kb] u fun v w'=>v= .bool true/\Kept u.heap.size u w':=
 acs (X:=fun v _=>v= .bool true) (fun _ _ _ h _=>h) fun τ=>(c29 lo lo sa sb ka kb (u.tp τ 0 noJ) (h1.kept jD) (h2.kept jD) hl hl).mono fun _ _ ⟨e1,hb⟩=>⟨_,e1,by rw[decide_eq_true rfl],hb⟩
theorem anM: ∃c s:Int,oM B xs= .tuple #[.int .i64 c,.int .i64 s]:=by
 unfold oM
 split<;>exact⟨_,_,rfl⟩
theorem anN: ∃c s:Int,ah3 B n= .tuple #[.int .i64 c,.int .i64 s]:=by
 unfold ah3
 split
 ·split<;>exact⟨_,_,rfl⟩
 ·exact⟨_,_,rfl⟩
theorem anO: ∃c d s:Int,oU B= .tuple #[.int .i64 c,.int .i64 d,.int .i64 s]:=by
 unfold oU
 split<;>exact⟨_,_,_,rfl⟩
theorem ani (may:Int->Bool):(rowOf B may).length<=1000000:=by
 unfold rowOf
 split
 ·rename_i hA;have hG:=gY hA;obtain⟨t,_,ht,_,e,_⟩:=aea hG may;rw[e,MS ht hG.fine.links.1];have:=hG.fine.links.2;omega
 ·simp
end
end Go.Proofs.YtaikibfkggglgaaGreatDoor
