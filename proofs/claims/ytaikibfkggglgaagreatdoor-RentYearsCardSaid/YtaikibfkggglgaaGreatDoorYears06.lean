/- A part of the proof of a law; no conditions of its own. -/
import Derived.Test.YtaikibfkggglgaaGreatDoorYears05
open Go.RowKit renaming Below→bX
open Go renaming World→wD
open Go.IntKind renaming i64→qi
open Go.Value renaming int→iN, slice→sL, pointer→pN
open Go.Obj renaming cells→cL
set_option maxRecDepth 100000
open Go renaming undef→ud
open Nat renaming le_refl→nR
open Go.Lib renaming hid→lH
open Go.RowKit.Below renaming refl→bR
open Go.Proofs.Tryz renaming prog→tP
open Go.World renaming cell?_setCell_far→wF
set_option maxHeartbeats 4000000
namespace Go.Proofs.YtaikibfkggglgaaGreatDoor
open Go.RowKit Go.Rent Go.Tp Go.Conc
theorem agA (V:BkV) (B:Bk) (p:Int) (w:wD) (hs:aB w V B) (hv:Vars w) (hpc:V.pa=none->V.pc=0) (h0:B.alarm=0) (hp:btw p 0 100=true) (h1:(bQ B p).alarm=1):
  Calls tP 23 #[V.val B,iN qi p] w fun e w'=>e= .returned (.tuple #[.agg #[iN qi 0,sL none 0 0,sL none 0 0,sL none 0 0],iN qi 1])/\bX w.heap.size w w':=by
 obtain⟨ta,la,pa,tc,lc,pc⟩:=V;have hb0:bX w.heap.size w ((w.alloc (cL #[iN qi B.hours,sL ta B.towns.length tc,sL la B.links.length lc,sL pa B.pairs.length pc] 26)).alloc (cL #[iN qi 0,sL none 0 0,sL none 0 0,sL none 0 0] 26)):=((bR _ _).alloc (nR _) _).alloc (by simp) _;have HC:=lH (c78 ⟨ta,la,pa,tc,lc,pc⟩ B true _ (hs.below hb0 (nR _)) (hv.v2.below hb0 (nR _)));rw[tV,h0,jE] at HC;have HB0:=lH hb0;have Hs:=lH hs;have Hv:=lH hv;have Hpc:=lH hpc;have Hp:=lH hp;have HG:=lH (gY h0);have H1:=lH h1;have hp2:=fK hp;have hf89:=aaN;clear hs hv hb0 hpc hp h0 h1;go_enter Tryz.func23,Tryz.ntmps23
 go_wp2_with fail
 generalize hWd:(w.alloc (cL #[iN qi B.hours,sL ta B.towns.length tc,sL la B.links.length lc,sL pa B.pairs.length pc] 26)).alloc (cL #[iN qi 0,sL none 0 0,sL none 0 0,sL none 0 0] 26)=W at *;have hWz:W.heap.size=w.heap.size+1+1:=by subst hWd;simp
 have HR1:Hid (tX W (w.heap.size+1)):=lH (by subst hWd;exact⟨⟨by go_simp,by go_simp,by go_simp,by go_simp⟩,by go_simp,by go_simp,by go_simp,by go_simp⟩);clear hWd;refine HC.out.mono ?_;rintro e w1 ⟨rfl,hb1⟩;have HW1:=lH hb1;clear hb1 HC
 go_wp2_with fail
 refine(c69 p 0 100 _).mono ?_;rintro e w0 ⟨rfl,rfl⟩;rw[Hp.out];have hbA:bX w1.heap.size w1 (w1.alloc (cL #[iN qi B.hours,sL ta B.towns.length tc,sL la B.links.length lc,sL pa B.pairs.length pc] 73)):=(bR _ _).alloc (nR _) _;have HW2:=lH (HW1.out.trans (hbA.mono HW1.out.size));have hb2:=HB0.out.trans (HW2.out.mono HB0.out.size);have HC2:=lH (c86 ⟨ta,la,pa,tc,lc,pc⟩ B HG.out p hp2 _ (Hs.out.below hb2 (nR _)) Hpc.out);clear hb2 hbA
 go_wp2_with fail
 refine HC2.out.mono ?_;rintro e w2 ⟨⟨va,vl,vp,vtc,vlc,vpc⟩,O,rfl,hO,hb3⟩;have HW3:=lH (HW2.out.trans (hb3.mono HW2.out.size));have hbB:bX w2.heap.size w2 (w2.alloc (cL #[iN qi B.hours,sL va B.towns.length vtc,sL vl B.links.length vlc,sL vp B.pairs.length vpc] 26)):=(bR _ _).alloc (nR _) _;have HO:=lH (hO.below hbB);have HW4:=lH (HW3.out.trans (hbB.mono HW3.out.size));have h19:=c19 ⟨va,vl,vp,vtc,vlc,vpc⟩ (bQ B p) _ (HO.out.inn (NI HG.out p)) (Hv.out.below (HB0.out.trans (HW4.out.mono HB0.out.size))).v2;rw[aaO,H1.out] at h19;have H19:=lH h19;clear hO hb3 hbB h19 HC2
 go_wp2_with fail
 refine H19.out.mono ?_;rintro e w4 ⟨rfl,hb5⟩;have HO5:=lH (HO.out.below hb5);have HW5:=lH (HW4.out.trans (hb5.mono HW4.out.size));have q0:=aoF hb5 (show (w2.alloc (cL #[iN qi B.hours,sL va B.towns.length vtc,sL vl B.links.length vlc,sL vp B.pairs.length vpc] 26)).cell? ⟨w2.heap.size,0,none⟩=some (iN qi B.hours) from by go_simp) (nR _);have q1:=aoF hb5 (show (w2.alloc (cL #[iN qi B.hours,sL va B.towns.length vtc,sL vl B.links.length vlc,sL vp B.pairs.length vpc] 26)).cell? ⟨w2.heap.size,1,none⟩=some (sL va B.towns.length vtc) from by go_simp) (nR _);have q2:=aoF hb5 (show (w2.alloc (cL #[iN qi B.hours,sL va B.towns.length vtc,sL vl B.links.length vlc,sL vp B.pairs.length vpc] 26)).cell? ⟨w2.heap.size,2,none⟩=some (sL vl B.links.length vlc) from by go_simp) (nR _);have q3:=aoF hb5 (show (w2.alloc (cL #[iN qi B.hours,sL va B.towns.length vtc,sL vl B.links.length vlc,sL vp B.pairs.length vpc] 26)).cell? ⟨w2.heap.size,3,none⟩=some (sL vp B.pairs.length vpc) from by go_simp) (nR _);have hb':=ak HW5.out;obtain⟨⟨c0,c1,c2,c3⟩,f0,f1,f2,f3⟩:=HR1.out;have r0:=(hb'.1 (w.heap.size+1) 0 (by omega)).trans c0;have g0:=(hb'.2 (w.heap.size+1) 0 (by omega)).trans f0;have r1:=(hb'.1 (w.heap.size+1) 1 (by omega)).trans c1;have g1:=(hb'.2 (w.heap.size+1) 1 (by omega)).trans f1;have r2:=(hb'.1 (w.heap.size+1) 2 (by omega)).trans c2;have g2:=(hb'.2 (w.heap.size+1) 2 (by omega)).trans f2;have r3:=(hb'.1 (w.heap.size+1) 3 (by omega)).trans c3;have g3:=(hb'.2 (w.heap.size+1) 3 (by omega)).trans f3;have hlo:w.heap.size+1<(w1.alloc (cL #[iN qi B.hours,sL ta B.towns.length tc,sL la B.links.length lc,sL pa B.pairs.length pc] 73)).heap.size:=by have:=HW1.out.size;simp;omega
 clear hb5 H19 hb' c0 c1 c2 c3 f0 f1 f2 f3;go_wp2;have n3:w.heap.size<=w.heap.size+1:=by omega
 refine bodyPost_ret (v:= .tuple #[.agg #[iN qi 0,sL none 0 0,sL none 0 0,sL none 0 0],iN qi 1]) (by simp[results,Tryz.results23,go_sem,r0,r1,r2,r3]) rfl ⟨rfl, ?_⟩;exact((((HB0.out.trans (HW5.out.mono HB0.out.size)).setCell (p:=⟨w.heap.size+1,0,none⟩) n3 _).setCell (p:=⟨w.heap.size+1,1,none⟩) n3 _).setCell (p:=⟨w.heap.size+1,2,none⟩) n3 _).setCell (p:=⟨w.heap.size+1,3,none⟩) n3 _
theorem apB {Q:Exit->Act->wD->Prop} (v0 xv:Value) (b b7 b8:Nat) (n m:Int) (h':Int) (ta' la' pa':Option Addr) (tc' lc' pc' n1 n2 n3:Nat) (al:Int) (W:wD) (h:Int) (ta la pa:Option Addr) (nt nl np tc lc pc:Nat)
  (k0:W.cell? ⟨b,0,none⟩=some (iN qi h)) (k1:W.cell? ⟨b,1,none⟩=some (sL ta nt tc)) (k2:W.cell? ⟨b,2,none⟩=some (sL la nl lc)) (k3:W.cell? ⟨b,3,none⟩=some (sL pa np pc))
  (H69: ∀u,bX W.heap.size W u->Calls tP 40 #[.agg #[iN qi h,sL ta nt tc,sL la nl lc,sL pa np pc],iN qi n] u fun e u'=>e= .returned (.bool false)/\bX u.heap.size u u')
  (H78: ∀u,bX W.heap.size W u->Calls tP 39 #[.agg #[iN qi h,sL ta nt tc,sL la nl lc,sL pa np pc],.bool false] u fun e u'=>e= .returned (.tuple #[.agg #[iN qi h',sL ta' n1 tc',sL la' n2 lc',sL pa' n3 pc'],iN qi al])/\bX u.heap.size u u')
  (K: ∀(b6:Nat) (w':wD),W.heap.size<=b6->bX W.heap.size W w'->dW w' b6 (iN qi h') (sL ta' n1 tc') (sL la' n2 lc') (sL pa' n3 pc')->Q .normal ⟨#[v0,iN qi n,iN qi m,xv,pN (some ⟨b,0,none⟩),ud,ud,pN (some ⟨b7,0,none⟩),pN (some ⟨b8,0,none⟩),iN qi 0,pN (some ⟨b6,0,none⟩),iN qi al,ud,.tuple #[.agg #[iN qi h',sL ta' n1 tc',sL la' n2 lc',sL pa' n3 pc'],iN qi al],.agg #[iN qi h,sL ta nt tc,sL la nl lc,sL pa np pc],.agg #[iN qi h,sL ta nt tc,sL la nl lc,sL pa np pc],iN qi n,.bool false,.bool false,ud,ud,ud,.bool false,.tuple #[.agg #[iN qi h',sL ta' n1 tc',sL la' n2 lc',sL pa' n3 pc'],iN qi al],.agg #[iN qi h',sL ta' n1 tc',sL la' n2 lc',sL pa' n3 pc'],iN qi al,ud,ud,ud,ud,ud,ud,ud,ud,ud,ud,ud,ud,ud,ud,ud,ud,ud,ud,ud,ud,ud,ud,ud,ud,ud,ud,ud,ud,ud,ud,ud,ud,ud,ud,ud,ud,ud,ud,ud,ud,ud,ud,ud,ud,ud,ud,ud,ud,ud,ud],[]⟩ w'):
  ahe.wp tP Q ⟨#[v0,iN qi n,iN qi m,xv,pN (some ⟨b,0,none⟩),ud,ud,pN (some ⟨b7,0,none⟩),pN (some ⟨b8,0,none⟩),iN qi 0,ud,ud,ud,ud,ud,ud,ud,ud,ud,ud,ud,ud,ud,ud,ud,ud,ud,ud,ud,ud,ud,ud,ud,ud,ud,ud,ud,ud,ud,ud,ud,ud,ud,ud,ud,ud,ud,ud,ud,ud,ud,ud,ud,ud,ud,ud,ud,ud,ud,ud,ud,ud,ud,ud,ud,ud,ud,ud,ud,ud,ud,ud,ud,ud,ud,ud],[]⟩ W:=by
 simp only[ahe,Tryz.f28];have hW:bX W.heap.size W W.drew:=(bR _ _).drew;have HC: ∀u,bX W.heap.size W u->u.cell? ⟨b,0,none⟩=some (iN qi h)/\u.cell? ⟨b,1,none⟩=some (sL ta nt tc)/\u.cell? ⟨b,2,none⟩=some (sL la nl lc)/\u.cell? ⟨b,3,none⟩=some (sL pa np pc):=fun u hu=>⟨aoF hu k0 (nR _),aoF hu k1 (nR _),aoF hu k2 (nR _),aoF hu k3 (nR _)⟩;refine aif 16 16 (fun u=>bX W.heap.size W u) (by kernel_rfl) ?_;refine ahN 0 (.agg #[iN qi h,sL ta nt tc,sL la nl lc,sL pa np pc]) hW ?_ (hr:=fun u hu=>by obtain⟨c0,c1,c2,c3⟩:=HC u hu;go_simp);refine ahN 1 (.agg #[iN qi h,sL ta nt tc,sL la nl lc,sL pa np pc]) hW ?_ (hr:=fun u hu=>by obtain⟨c0,c1,c2,c3⟩:=HC u hu;go_simp);refine ahN 2 (iN qi n) hW ?_ (hr:=fun u hu=>by go_simp);have hz:=hW.size;have fin: ∀(b6:Nat) (u:wD),W.heap.size<=b6->bX W.heap.size W u->(∃c0 c1 c2 c3,dW u b6 c0 c1 c2 c3)->dW ((((u.setCell ⟨b6,0,none⟩ (iN qi h')).setCell ⟨b6,1,none⟩ (sL ta' n1 tc')).setCell ⟨b6,2,none⟩ (sL la' n2 lc')).setCell ⟨b6,3,none⟩ (sL pa' n3 pc')) b6 (iN qi h') (sL ta' n1 tc') (sL la' n2 lc') (sL pa' n3 pc')/\bX W.heap.size W ((((u.setCell ⟨b6,0,none⟩ (iN qi h')).setCell ⟨b6,1,none⟩ (sL ta' n1 tc')).setCell ⟨b6,2,none⟩ (sL la' n2 lc')).setCell ⟨b6,3,none⟩ (sL pa' n3 pc')):=fun b6 u h1 h2 ⟨_,_,_,_,h3⟩=>⟨aiK h3 _ _ _ _,aik h2 h1 rfl _ _ _ _⟩;refine aie 3 13 ?_ ?_
 ·refine ahW (f:=40) (args:= #[.agg #[iN qi h,sL ta nt tc,sL la nl lc,sL pa np pc],iN qi n]) (w':=W.drew) (by go_simp) ((H69 _ hW).mono ?_);rintro e u ⟨rfl,hb⟩;have hu:bX W.heap.size W u:=hW.trans (hb.mono hz);refine⟨_,rfl,fun _=>hu, ?_⟩;simp only[Act.put,List.setIfInBounds_toArray,List.set,List.getElem_toArray,List.getElem_cons_zero,List.getElem_cons_succ];refine ahN 4 (.bool false) hu ?_ (hr:=fun u hu=>by go_simp);refine an9 5 ?_;refine an9 6 ?_;refine an9 7 ?_;refine ahN 8 (.bool false) hu ?_ (hr:=fun u hu=>by go_simp);refine aie 9 13 ?_ ?_
  ·refine ahW (f:=39) (args:= #[.agg #[iN qi h,sL ta nt tc,sL la nl lc,sL pa np pc],.bool false]) (w':=u) (by go_simp) ((H78 _ hu).mono ?_);rintro e u1 ⟨rfl,hb1⟩;have hu1:bX W.heap.size W u1:=hu.trans (hb1.mono hu.size);refine⟨_,rfl,fun _=>hu1, ?_⟩;refine ahN 10 (.tuple #[.agg #[iN qi h',sL ta' n1 tc',sL la' n2 lc',sL pa' n3 pc'],iN qi al]) hu1 ?_ (hr:=fun u hu=>by go_simp);refine ahN 11 (.agg #[iN qi h',sL ta' n1 tc',sL la' n2 lc',sL pa' n3 pc']) hu1 ?_ (hr:=fun u hu=>by go_simp);refine ahN 12 (iN qi al) hu1 ?_ (hr:=fun u hu=>by go_simp);refine ahQ 13 (h:=ah0 (v:= pN (some ⟨u1.heap.size,0,none⟩)) (w':=u1.alloc (cL #[iN qi 0,sL none 0 0,sL none 0 0,sL none 0 0] 73)) (by go_simp) ⟨fun _=>hu1.alloc hu1.size _, ?_⟩);have hr:=ahT u1 73 (iN qi 0) (sL none 0 0) (sL none 0 0) (sL none 0 0);have hua:=hu1.alloc hu1.size (cL #[iN qi 0,sL none 0 0,sL none 0 0,sL none 0 0] 73);have hus:=hu1.size;generalize u1.alloc (cL #[iN qi 0,sL none 0 0,sL none 0 0,sL none 0 0] 73)=ua at *;generalize u1.heap.size=b6 at *;obtain⟨g1,g2⟩:=fin b6 ua hus hua ⟨_,_,_,_,hr⟩;refine ahQ 14 (h:=ah1 (w':=((((ua.setCell ⟨b6,0,none⟩ (iN qi h')).setCell ⟨b6,1,none⟩ (sL ta' n1 tc')).setCell ⟨b6,2,none⟩ (sL la' n2 lc')).setCell ⟨b6,3,none⟩ (sL pa' n3 pc'))) ?_ ⟨fun _=>g2, ?_⟩)
   ·obtain⟨hz',c0,c1,c2,c3,f0,f1,f2,f3⟩:=hr;go_simp
   refine ahN 15 (iN qi al) g2 ?_ (hr:=fun u hu=>by go_simp);refine ahZ ?_;have hK:=K _ _ hus g2 g1;clear K;go_simp;exact hK
  ·refine ah0 (v:= pN (some ⟨u.heap.size,0,none⟩)) (w':=u.alloc (cL #[iN qi 0,sL none 0 0,sL none 0 0,sL none 0 0] 73)) (by go_simp) ⟨fun _=>hu.alloc hu.size _, ?_⟩;have hn:=ahT u 73 (iN qi 0) (sL none 0 0) (sL none 0 0) (sL none 0 0);have hua:=hu.alloc hu.size (cL #[iN qi 0,sL none 0 0,sL none 0 0,sL none 0 0] 73);have hus:=hu.size;generalize u.alloc (cL #[iN qi 0,sL none 0 0,sL none 0 0,sL none 0 0] 73)=ua at *;generalize u.heap.size=b6 at *;refine ahQ 9 (h:= ?_);refine ahW (f:=39) (args:= #[.agg #[iN qi h,sL ta nt tc,sL la nl lc,sL pa np pc],.bool false]) (w':=ua) (by go_simp) ((H78 _ hua).mono ?_);rintro e u1 ⟨rfl,hb1⟩;have hu1:bX W.heap.size W u1:=hua.trans (hb1.mono hua.size);refine⟨_,rfl,fun _=>hu1, ?_⟩;have hr:=hn.below hb1 hn.z;refine ahN 10 (.tuple #[.agg #[iN qi h',sL ta' n1 tc',sL la' n2 lc',sL pa' n3 pc'],iN qi al]) hu1 ?_ (hr:=fun u hu=>by go_simp);refine ahN 11 (.agg #[iN qi h',sL ta' n1 tc',sL la' n2 lc',sL pa' n3 pc']) hu1 ?_ (hr:=fun u hu=>by go_simp);refine ahN 12 (iN qi al) hu1 ?_ (hr:=fun u hu=>by go_simp);obtain⟨g1,g2⟩:=fin b6 u1 hus hu1 ⟨_,_,_,_,hr⟩;refine ahQ 14 (h:=ah1 (w':=((((u1.setCell ⟨b6,0,none⟩ (iN qi h')).setCell ⟨b6,1,none⟩ (sL ta' n1 tc')).setCell ⟨b6,2,none⟩ (sL la' n2 lc')).setCell ⟨b6,3,none⟩ (sL pa' n3 pc'))) ?_ ⟨fun _=>g2, ?_⟩)
   ·obtain⟨hz',c0,c1,c2,c3,f0,f1,f2,f3⟩:=hr;go_simp
   refine ahN 15 (iN qi al) g2 ?_ (hr:=fun u hu=>by go_simp);refine ahZ ?_;have hK:=K _ _ hus g2 g1;clear K;go_simp;exact hK
 ·refine ah0 (v:= pN (some ⟨W.drew.heap.size,0,none⟩)) (w':=W.drew.alloc (cL #[iN qi 0,sL none 0 0,sL none 0 0,sL none 0 0] 73)) (by go_simp) ⟨fun _=>hW.alloc hW.size _, ?_⟩;have hn:=ahT W.drew 73 (iN qi 0) (sL none 0 0) (sL none 0 0) (sL none 0 0);have hua:=hW.alloc hW.size (cL #[iN qi 0,sL none 0 0,sL none 0 0,sL none 0 0] 73);have hus:=hW.size;generalize W.drew.alloc (cL #[iN qi 0,sL none 0 0,sL none 0 0,sL none 0 0] 73)=ua at *;generalize W.drew.heap.size=b6 at *;refine ahQ 3 (h:= ?_);refine ahW (f:=40) (args:= #[.agg #[iN qi h,sL ta nt tc,sL la nl lc,sL pa np pc],iN qi n]) (w':=ua) (by go_simp) ((H69 _ hua).mono ?_);rintro e u ⟨rfl,hb⟩;have hu:bX W.heap.size W u:=hua.trans (hb.mono hua.size);refine⟨_,rfl,fun _=>hu, ?_⟩;simp only[Act.put,List.setIfInBounds_toArray,List.set,List.getElem_toArray,List.getElem_cons_zero,List.getElem_cons_succ];refine ahN 4 (.bool false) hu ?_ (hr:=fun u hu=>by go_simp);refine an9 5 ?_;refine an9 6 ?_;refine an9 7 ?_;refine ahN 8 (.bool false) hu ?_ (hr:=fun u hu=>by go_simp);have hr0:=hn.below hb hn.z;refine ahQ 9 (h:= ?_);refine ahW (f:=39) (args:= #[.agg #[iN qi h,sL ta nt tc,sL la nl lc,sL pa np pc],.bool false]) (w':=u) (by go_simp) ((H78 _ hu).mono ?_);rintro e u1 ⟨rfl,hb1⟩;have hu1:bX W.heap.size W u1:=hu.trans (hb1.mono hu.size);refine⟨_,rfl,fun _=>hu1, ?_⟩;have hr:=hr0.below hb1 hr0.z;refine ahN 10 (.tuple #[.agg #[iN qi h',sL ta' n1 tc',sL la' n2 lc',sL pa' n3 pc'],iN qi al]) hu1 ?_ (hr:=fun u hu=>by go_simp);refine ahN 11 (.agg #[iN qi h',sL ta' n1 tc',sL la' n2 lc',sL pa' n3 pc']) hu1 ?_ (hr:=fun u hu=>by go_simp);refine ahN 12 (iN qi al) hu1 ?_ (hr:=fun u hu=>by go_simp);obtain⟨g1,g2⟩:=fin b6 u1 hus hu1 ⟨_,_,_,_,hr⟩;refine ahQ 14 (h:=ah1 (w':=((((u1.setCell ⟨b6,0,none⟩ (iN qi h')).setCell ⟨b6,1,none⟩ (sL ta' n1 tc')).setCell ⟨b6,2,none⟩ (sL la' n2 lc')).setCell ⟨b6,3,none⟩ (sL pa' n3 pc'))) ?_ ⟨fun _=>g2, ?_⟩)
  ·obtain⟨hz',c0,c1,c2,c3,f0,f1,f2,f3⟩:=hr;go_simp
  refine ahN 15 (iN qi al) g2 ?_ (hr:=fun u hu=>by go_simp);refine ahZ ?_;have hK:=K _ _ hus g2 g1;clear K;go_simp;exact hK
theorem apC (V:BkV) (B:Bk) (k n x1 x2 A:Int) (w:wD) (hs:aB w V B) (hv:Vars w) (hA:A=if btw k 0 ((B.pairs.length:Int)-1)=true then fF B (bP B n) else fF B false) (hne:A≠0):
  Calls tP 28 #[V.val B,iN qi k,iN qi n,.agg #[iN qi x1,iN qi x2]] w fun e w'=>e= .returned (.tuple #[.agg #[iN qi 0,sL none 0 0,sL none 0 0,sL none 0 0],iN qi A])/\bX w.heap.size w w':=by
 obtain⟨ta,la,pa,tc,lc,pc⟩:=V;have Hs:=lH hs;have Hv:=lH hv;have HA:=lH (And.intro hA hne);have hA3:(A != 0)=true:=by simpa using hne
 clear hs hv hA hne;go_enter Tryz.func28,Tryz.ntmps28
 go_wp2_with fail
 generalize hWd:((w.alloc (cL #[iN qi B.hours,sL ta B.towns.length tc,sL la B.links.length lc,sL pa B.pairs.length pc] 26)).alloc (cL #[iN qi x1,iN qi x2] 43)).alloc (cL #[iN qi 0,sL none 0 0,sL none 0 0,sL none 0 0] 26)=W;have HBW:Hid (bX w.heap.size w W):=lH (by subst hWd;exact(((bR _ _).alloc (nR _) _).alloc (by simp) _).alloc (by simp;omega) _);have k0:W.cell? ⟨w.heap.size,0,none⟩=some (iN qi B.hours):=by subst hWd;go_simp
 have k1:W.cell? ⟨w.heap.size,1,none⟩=some (sL ta B.towns.length tc):=by subst hWd;go_simp
 have k2:W.cell? ⟨w.heap.size,2,none⟩=some (sL la B.links.length lc):=by subst hWd;go_simp
 have k3:W.cell? ⟨w.heap.size,3,none⟩=some (sL pa B.pairs.length pc):=by subst hWd;go_simp
 have HR:Hid (dW W (w.heap.size+2) (iN qi 0) (sL none 0 0) (sL none 0 0) (sL none 0 0)):=lH (by subst hWd;exact⟨by simp,by go_simp,by go_simp,by go_simp,by go_simp,by go_simp,by go_simp,by go_simp,by go_simp⟩);clear hWd
 cases hbt:btw k 0 ((B.pairs.length:Int)-1) with
 |true=>
  have hA:=HA.out.1;rw[hbt,if_pos rfl] at hA;have Hres:Hid (bU ⟨ta,la,pa,tc,lc,pc⟩ B (fF B (bP B n))= .tuple #[.agg #[iN qi 0,sL none 0 0,sL none 0 0,sL none 0 0],iN qi A]):=lH (by rw[<-hA,lC HA.out.2]);refine Code.wp_mono ?_ (ahl ta la pa tc lc pc B k n hbt w W _ _ Hs.out Hv.out HBW k0 k1 k2 k3 0 none none none 0 0 0 0 0 0 A Hres.out);clear hA hbt;rintro e a w' hq
  cases e with
  |normal=>
   obtain⟨b8,rfl,hb8,hbel,hrow⟩:=hq;have HBw':Hid (bX w.heap.size w w'):=lH (HBW.out.trans (hbel.mono HBW.out.size));clear k0 k1 k2 k3 hb8 hrow;obtain⟨_,e0,e1,e2,e3,g0,g1,g2,g3⟩:=HR.out.below hbel HR.out.z;clear hbel;go_wp2;refine bodyPost_ret (v:= .tuple #[.agg #[iN qi 0,sL none 0 0,sL none 0 0,sL none 0 0],iN qi A]) (by simp[results,Tryz.results28,go_sem,e0,e1,e2,e3]) rfl ⟨rfl, ?_⟩;exact aik HBw'.out (by omega) rfl _ _ _ _
  |_=>exact hq.elim
 |false=>
  have hA:=HA.out.1;rw[hbt,if_neg (by decide)] at hA;refine apB _ _ w.heap.size _ _ k n 0 none none none 0 0 0 0 0 0 A W B.hours ta la pa B.towns.length B.links.length B.pairs.length tc lc pc k0 k1 k2 k3 (fun u _=>(c83 ⟨ta,la,pa,tc,lc,pc⟩ B k u Hs.out.np).mono fun _ _ h=>⟨by rw[h.1,hbt],h.2⟩) (fun u hu=>(c78 ⟨ta,la,pa,tc,lc,pc⟩ B false u (Hs.out.below (HBW.out.trans (hu.mono HBW.out.size)) (nR _)) (Hv.out.v2.below (HBW.out.trans (hu.mono HBW.out.size)) (nR _))).mono fun _ _ h=>⟨by rw[h.1,<-hA,lC HA.out.2],h.2⟩) ?_;clear hA hbt;intro b8 w' hb8 hbel hrow;have HBw':Hid (bX w.heap.size w w'):=lH (HBW.out.trans (hbel.mono HBW.out.size));clear k0 k1 k2 k3 hb8 hrow;obtain⟨_,e0,e1,e2,e3,g0,g1,g2,g3⟩:=HR.out.below hbel HR.out.z;clear hbel;go_wp2;refine bodyPost_ret (v:= .tuple #[.agg #[iN qi 0,sL none 0 0,sL none 0 0,sL none 0 0],iN qi A]) (by simp[results,Tryz.results28,go_sem,e0,e1,e2,e3]) rfl ⟨rfl, ?_⟩;exact aik HBw'.out (by omega) rfl _ _ _ _
theorem m28 (V:BkV) (B:Bk) (k n x1 x2:Int) (w:wD) (hs:aB w V B) (hv:Vars w) (hpc:V.pa=none->V.pc=0):
  Calls tP 28 #[V.val B,iN qi k,iN qi n,.agg #[iN qi x1,iN qi x2]] w (BkQ (aoN B k n x1 x2) (aoJ B k n x1 x2) w):=by
 by_cases hal:an2 B k n=0
 ·obtain⟨hA,hk,hn⟩:=aok hal;have hh:=(gY hA).fine.hours;obtain⟨i,rfl⟩: ∃i:Nat,k=(i:Int):=⟨k.toNat,by simp[btw] at hk;omega⟩;obtain⟨h,rfl⟩: ∃h:Nat,n=(h:Int):=⟨n.toNat,by simp[btw] at hn;omega⟩;refine(c53 V B i h x1 x2 w hs hv hpc hA (by simp[btw] at hk;omega) (by simp[btw] at hn;omega)).mono ?_;rintro e w' ⟨hq,hb⟩;have hqa:aoJ B (i:Int) (h:Int) x1 x2=if dw (x1,x2)=true then (if (ag4 B i h x1 x2).2<(ag4 B i h x1 x2).1 then 10 else 0) else 1:=by unfold aoJ;rw[hal,if_pos rfl];rfl
  rcases hq with ⟨h1,rfl⟩ |⟨h1,h2,rfl⟩ |⟨h1,h2,V',O,rfl,hO⟩
  ·have e1:aoJ B (i:Int) (h:Int) x1 x2=1:=by rw[hqa,h1];rfl
   rw[aoV e1 (by decide),e1];exact aoO hb
  ·have e1:aoJ B (i:Int) (h:Int) x1 x2=10:=by rw[hqa,h1,if_pos rfl,if_pos h2]
   rw[aoV e1 (by decide),e1];exact aoO hb
  ·have e1:aoJ B (i:Int) (h:Int) x1 x2=0:=by rw[hqa,h1,if_pos rfl,if_neg (by omega)]
   have e2:aoN B (i:Int) (h:Int) x1 x2=fD B i h (ag4 B i h x1 x2):=by unfold aoN;rw[if_pos e1];rfl
   have hbk:dw (ag4 B i h x1 x2)=true:=by
    have h3:=ahh hA (i:=i) (h:=h) (by simp[btw] at hk;omega) (by simp[btw] at hn;omega);unfold dw at h1 ⊢;simp only[decide_eq_true_eq] at h1 ⊢;refine⟨?_,h2, ?_⟩<;>(unfold ag4;simp only;omega)
   rw[e1,e2];exact⟨V',by simp only[BkV.val,ag9];rfl,hO.inn (Fe (gY (ahq hA hbk))),hb⟩
 ·have e1:aoJ B k n x1 x2=an2 B k n:=by unfold aoJ;rw[if_neg hal]
  rw[aoV e1 hal,e1];exact(apC V B k n x1 x2 _ w hs hv rfl hal).mono fun e w' ⟨h1,h2⟩=>by subst h1;exact aoO h2
theorem apc (V:BkV) (B:Bk) (p:Int) (w:wD) (hs:aB w V B) (hv:Vars w) (A:Int) (hA: ¬B.alarm=0/\A=B.alarm\/B.alarm=0/\btw p 0 100=false/\A=1):
  Calls tP 23 #[V.val B,iN qi p] w fun e w'=>e= .returned (.tuple #[.agg #[iN qi 0,sL none 0 0,sL none 0 0,sL none 0 0],iN qi A])/\bX w.heap.size w w':=by
 obtain⟨ta,la,pa,tc,lc,pc⟩:=V;have hb0:bX w.heap.size w ((w.alloc (cL #[iN qi B.hours,sL ta B.towns.length tc,sL la B.links.length lc,sL pa B.pairs.length pc] 26)).alloc (cL #[iN qi 0,sL none 0 0,sL none 0 0,sL none 0 0] 26)):=((bR _ _).alloc (nR _) _).alloc (by simp) _;have HC:=lH (c78 ⟨ta,la,pa,tc,lc,pc⟩ B true _ (hs.below hb0 (nR _)) (hv.v2.below hb0 (nR _)));rw[tV] at HC;have HT:=lH (GN w (cL #[iN qi B.hours,sL ta B.towns.length tc,sL la B.links.length lc,sL pa B.pairs.length pc] 26) (cL #[iN qi 0,sL none 0 0,sL none 0 0,sL none 0 0] 26));have HB0:=lH hb0;have HA:=lH hA;have hf89:=aaN;clear hs hv hb0 hA;generalize B.alarm=al at *;go_enter Tryz.func23,Tryz.ntmps23
 go_wp2_with fail
 refine HC.out.mono ?_;rintro e W ⟨rfl,hb1⟩;obtain⟨_,e0,e1,e2,e3,g0,g1,g2,g3⟩:=(row4 HT.out.2).below hb1 (by simp);have HBW:=lH (HB0.out.trans (hb1.mono (by simp;omega)));have hlt:w.heap.size+1<W.heap.size:=by have:=hb1.size;simp at this;omega
 clear hb1 HC HB0 HT
 rcases HA.out with ⟨h1,rfl⟩ |⟨rfl,h2,rfl⟩
 ·rw[lC h1];have hA3:(A != 0)=true:=by simpa using h1
  clear h1 HA;go_wp2;refine bodyPost_ret (v:= .tuple #[.agg #[iN qi 0,sL none 0 0,sL none 0 0,sL none 0 0],iN qi A]) (by simp[results,Tryz.results23,go_sem,e0,e1,e2,e3,hlt]) rfl ⟨rfl, ?_⟩;exact(aik HBW.out (by omega) rfl _ _ _ _).alloc (by simpa using HBW.out.size) _
 ·rw[jE];have Hp:=lH h2;clear h2 HA
  go_wp2_with fail
  refine(c69 p 0 100 _).mono ?_;rintro e w0 ⟨rfl,rfl⟩;rw[Hp.out];go_wp2;refine bodyPost_ret (v:= .tuple #[.agg #[iN qi 0,sL none 0 0,sL none 0 0,sL none 0 0],iN qi 1]) (by simp[results,Tryz.results23,go_sem,e0,e1,e2,e3,hlt]) rfl ⟨rfl, ?_⟩;exact(aik HBW.out (by omega) rfl _ _ _ _).alloc (by simpa using HBW.out.size) _
theorem m23 (V:BkV) (B:Bk) (p:Int) (w:wD) (hs:aB w V B) (hv:Vars w) (hpc:V.pa=none->V.pc=0):
  Calls tP 23 #[V.val B,iN qi p] w (BkQ (aoI B p) (aoK B p) w):=by
 by_cases hA:B.alarm=0
 ·cases hbt:btw p 0 100 with
  |false=>
   have e1:aoK B p=1:=by unfold aoK;rw[if_pos hA,hbt];rfl
   have e2:aoI B p=noB:=by unfold aoI;rw[e1];rfl
   rw[e1,e2];exact(apc V B p w hs hv _ (.inr ⟨hA,hbt,rfl⟩)).mono fun e w' ⟨h1,h2⟩=>by subst h1;exact aoO h2
  |true=>
   have e1:aoK B p=(bQ B p).alarm:=by unfold aoK;rw[if_pos hA,hbt];rfl
   rcases agK hA p with h0 |h0
   ·have e2:aoI B p=bQ B p:=by unfold aoI;rw[e1,if_pos h0]
    rw[e2,e1,h0];exact(aaP V B p w hs hv hpc hA hbt h0).mono fun e w' ⟨V',O,h1,hO,hb⟩=>⟨V',by rw[h1,aaO],hO.inn (NI (gY hA) p),hb⟩
   ·have e2:aoI B p=noB:=by unfold aoI;rw[e1,h0];rfl
    rw[e2,e1,h0];exact(agA V B p w hs hv hpc hA hbt h0).mono fun e w' ⟨h1,h2⟩=>by subst h1;exact aoO h2
 ·have e1:aoK B p=B.alarm:=by unfold aoK;rw[if_neg hA]
  have e2:aoI B p=noB:=by unfold aoI;rw[e1,if_neg hA]
  rw[e1,e2];exact(apc V B p w hs hv _ (.inl ⟨hA,rfl⟩)).mono fun e w' ⟨h1,h2⟩=>by subst h1;exact aoO h2
theorem ach {n:Nat} {w w':wD} (h:Kept n w w') {p:Addr} (hp:n<=p.block) (v:Value):Kept n w (w'.setCell p v):=
 ⟨h.os,h.output,by rw[World.size_setCell];exact h.size,fun j hj=>by
  rw[<-h.block j hj];exact qy w' p v (by omega)⟩
structure afY (w:wD) (b:Nat) (V:BkV) (B:Bk):Prop where
 c0:w.cell? ⟨b,0,none⟩=some (iN qi B.hours)
 c1:w.cell? ⟨b,1,none⟩=some (sL V.ta B.towns.length V.tc)
 c2:w.cell? ⟨b,2,none⟩=some (sL V.la B.links.length V.lc)
 c3:w.cell? ⟨b,3,none⟩=some (sL V.pa B.pairs.length V.pc)
 lt:b<w.heap.size
 fr: ∀j,w.frozen? ⟨b,j,none⟩=false
theorem afY.kept {w w':wD} {b:Nat} {V:BkV} {B:Bk} (h:afY w b V B) (hk:Kept w.heap.size w w'):afY w' b V B:=
 ⟨dV hk (nR _) h.c0,dV hk (nR _) h.c1,dV hk (nR _) h.c2,dV hk (nR _) h.c3,Nat.lt_of_lt_of_le h.lt hk.size,fun j=>by rw[hk.frozen (p:=⟨b,j,none⟩) h.lt];exact h.fr j⟩
section
variable {f:FuncId} {N d s t:Nat} {a:Act} {w:wD} {l:List (Nat×Value)} {ops:Array Oper} {i j:Nat} {rest:List Nat} {kk:List Item} {R:Value->wD->Prop} {o o2:Oper}
theorem agB (w:wD) (τ:Nat->Question->Nat) (d:Nat) (x:Obj):(w.tp τ d noJ).alloc x=(w.alloc x).tp τ d noJ:=by
 unfold World.tp World.alloc;rw[vO,vO]
def afS (w:wD) (b:Nat) (V:BkV) (B:Bk):wD:=(((w.setCell ⟨b,0,none⟩ (iN qi B.hours)).setCell ⟨b,1,none⟩ (sL V.ta B.towns.length V.tc)).setCell ⟨b,2,none⟩ (sL V.la B.links.length V.lc)).setCell ⟨b,3,none⟩ (sL V.pa B.pairs.length V.pc)
theorem agi (w:wD) (τ:Nat->Question->Nat) (d:Nat) (b:Nat) (V:BkV) (B:Bk):afS (w.tp τ d noJ) b V B=(afS w b V B).tp τ d noJ:=by
 unfold afS;rw[Pz _ _ _ lF,Pz _ _ _ lF,Pz _ _ _ lF,Pz _ _ _ lF]
structure afU (w:wD) (b:Nat):Prop where
 c:(∃v,w.cell? ⟨b,0,none⟩=some v)/\(∃v,w.cell? ⟨b,1,none⟩=some v)/\(∃v,w.cell? ⟨b,2,none⟩=some v)/\ ∃v,w.cell? ⟨b,3,none⟩=some v
 lt:b<w.heap.size
 fr: ∀j,w.frozen? ⟨b,j,none⟩=false
theorem af8 {w:wD} {b:Nat} (h:afU w b) (V:BkV) (B:Bk):afY (afS w b V B) b V B:=by
 obtain⟨⟨⟨v0,c0⟩,⟨v1,c1⟩,⟨v2,c2⟩,⟨v3,c3⟩⟩,hl,hf⟩:=h;have f0:=hf 0;have f1:=hf 1;have f2:=hf 2;have f3:=hf 3;unfold afS;refine⟨by go_simp,by go_simp,by go_simp,by go_simp,by simpa using hl,fun j=> ?_⟩;rw[World.frozen?_setCell,World.frozen?_setCell,World.frozen?_setCell,World.frozen?_setCell];exact hf j
theorem af9 {n:Nat} {w w':wD} {b:Nat} (h:Kept n w w') (hb:n<=b) (V:BkV) (B:Bk):Kept n w (afS w' b V B):=
 ach (ach (ach (ach h (p:=⟨b,0,none⟩) hb _) (p:=⟨b,1,none⟩) hb _) (p:=⟨b,2,none⟩) hb _) (p:=⟨b,3,none⟩) hb _
theorem agj {w:wD} {b:Nat} (h:afU w b) (τ:Nat->Question->Nat) (d:Nat):afU (w.tp τ d noJ) b:=by
 obtain⟨c,hl,hf⟩:=h;exact⟨by simpa only[bV] using c,by rw[jO];exact hl,fun j=>by rw[(jD (w:=w) (τ:=τ) (d:=d)).frozen (p:=⟨b,j,none⟩) hl];exact hf j⟩
theorem agk {o:Oper} {p q b:Nat} {V:BkV} {B:Bk} {x:wD} (hp2:o.op= .store 26 (.tmp p) (.tmp q)) (hd:a.tmps[p]?.getD ud= pN (some ⟨b,0,none⟩)) (hs:a.tmps[q]?.getD ud=V.val B) (h:afU x b):(execOp a.eval o).run tP x= .ok .skip (afS x b V B):=by
 obtain⟨⟨⟨v0,c0⟩,⟨v1,c1⟩,⟨v2,c2⟩,⟨v3,c3⟩⟩,hl,hf⟩:=h;have f0:=hf 0;have f1:=hf 1;have f2:=hf 2;have f3:=hf 3;obtain⟨dd,oo,ty,po,af,gu⟩:=o;simp only at hp2;subst hp2;unfold BkV.val at hs;unfold afS;go_simp
theorem ag3 (S:wD->Prop) (ho:ops[i]? =some o) (hw:Region.wanted o (yielded ops a.tmps)=true) (hr: ∀τ,∃w',(execOp a.eval o).run tP (w.tp τ 0 noJ)= .ok .skip w'/\S w')
  (h: ∀w',S w'->GL tP f (.inRegion ops rest::kk) R (a.put o.dst ud) w'):GL tP f (.inRegion ops (i::rest)::kk) R a w:=by
 refine Eo good (fun it b u=>it= .inRegion ops rest::kk/\b=a.put o.dst ud/\S u) (fun τ=> ?_) fun it b u ⟨e1,e2,hs⟩=>by subst e1 e2;exact h u hs
 obtain⟨w',hr',hs⟩:=hr τ;refine⟨_,_,w',⟨rfl,rfl,hs⟩,fun cc=> .one (step_lone_go ?_)⟩
 change (stepG tP true (G ((aN f).at a (.inRegion ops (i::rest)::kk)) cc) (w.tp τ 0 noJ)).bare=_
 rw[stepG_none ho hw (by intro e;cases e) hr'];rfl
theorem aga {it:List Item} {τ:Nat->Question->Nat} {d:Nat} (h:GL tP f it R a w):GL tP f it R a (w.tp τ d noJ):=
 qL (τ:=w.tape) (d:=w.drawn) (by rw[dS,dh];exact h)
theorem agb {V:BkV} {B:Bk} (hS:Sl a N l) (h: ∀a' b w',w.heap.size<=b->Kept w.heap.size w w'->afY w' b V B->Sl a' N ((d,pN (some ⟨b,0,none⟩))::l)->GL tP f (.inRegion ops rest::kk) R a' w') (hs:a.tmps[s]?.getD ud=V.val B)
  (ho:ops[i]? =some o:=by rfl) (ho2:ops[j]? =some o2:=by rfl) (hg:o.guard=none:=by rfl) (hg2:o2.guard=none:=by rfl) (hdst:o.dst=some d:=by rfl) (hdst2:o2.dst=none:=by rfl) (hd:d<N:=by decide) (hn:(l.map (·.1)).contains d=false:=by rfl) (hp:o.op= .alloc 26:=by rfl) (hp2:o2.op= .store 26 (.tmp d) (.tmp s):=by rfl) (hne:s≠d:=by decide):
  GL tP f (.inRegion ops (i::j::rest)::kk) R a w:=by
 have P:=kP a (d:=d) (pN (some ⟨w.heap.size,0,none⟩)) (by rw[hS.1];exact hd);refine LQ good (fun v u=>v= pN (some ⟨w.heap.size,0,none⟩)/\ ∃τ,u=(w.alloc (cL #[iN qi 0,sL none 0 0,sL none 0 0,sL none 0 0] 26)).tp τ 0 noJ) ho (by unfold Region.wanted;rw[hg]) (fun τ=>⟨pN (some ⟨w.heap.size,0,none⟩),(w.tp τ 0 noJ).alloc (cL #[iN qi 0,sL none 0 0,sL none 0 0,sL none 0 0] 26), ?_,rfl,τ,agB _ _ _ _⟩) ?_
 ·have hz:(w.tp τ 0 noJ).heap.size=w.heap.size:=jO;obtain⟨dd,oo,ty,po,af,gu⟩:=o;simp only at hp;subst hp;rw[<-hz];generalize w.tp τ 0 noJ=w1;go_simp
 rintro v u ⟨rfl,τ,rfl⟩;refine aga ?_;rw[hdst];have hS2:=hS.put hd hn (v:= pN (some ⟨w.heap.size,0,none⟩));have hs2:(a.put (some d) (pN (some ⟨w.heap.size,0,none⟩))).tmps[s]?.getD ud=V.val B:=(P.other s hne).trans hs;have hd2:(a.put (some d) (pN (some ⟨w.heap.size,0,none⟩))).tmps[d]?.getD ud= pN (some ⟨w.heap.size,0,none⟩):=P.same;have hx:afU (w.alloc (cL #[iN qi 0,sL none 0 0,sL none 0 0,sL none 0 0] 26)) w.heap.size:=⟨⟨⟨_,by go_simp;rfl⟩,⟨_,by go_simp;rfl⟩,⟨_,by go_simp;rfl⟩,⟨_,by go_simp;rfl⟩⟩,by simp,fun j=>by go_simp⟩;have hk:Kept w.heap.size w (w.alloc (cL #[iN qi 0,sL none 0 0,sL none 0 0,sL none 0 0] 26)):=Kept.of_below ((bR _ _).alloc (nR _) _);generalize a.put (some d) (pN (some ⟨w.heap.size,0,none⟩))=a2 at *;generalize w.alloc (cL #[iN qi 0,sL none 0 0,sL none 0 0,sL none 0 0] 26)=W at *;refine ag3 (fun u=> ∃τ,u=(afS W w.heap.size V B).tp τ 0 noJ) ho2 (by unfold Region.wanted;rw[hg2]) (fun τ=>⟨_,agk hp2 hd2 hs2 (agj hx τ 0),τ,agi _ _ _ _ _ _⟩) ?_;rintro u ⟨τ,rfl⟩;refine aga ?_;rw[hdst2];exact h a2 w.heap.size _ (nR _) (af9 hk (nR _) V B) (af8 hx V B) hS2
theorem agD {b:Nat} {V:BkV} {B:Bk} (hS:Sl a N l) (hx:afU w b) (h:Sl a N l->GL tP f (.inRegion ops rest::kk) R a (afS w b V B)) (hd:a.tmps[t]?.getD ud= pN (some ⟨b,0,none⟩)) (hs:a.tmps[s]?.getD ud=V.val B)
  (ho:ops[i]? =some o:=by rfl) (hg:o.guard=none:=by rfl) (hdst:o.dst=none:=by rfl) (hp:o.op= .store 26 (.tmp t) (.tmp s):=by rfl):
  GL tP f (.inRegion ops (i::rest)::kk) R a w:=by
 refine ag3 (fun u=> ∃τ,u=(afS w b V B).tp τ 0 noJ) ho (by unfold Region.wanted;rw[hg]) (fun τ=>⟨_,agk hp hd hs (agj hx τ 0),τ,agi _ _ _ _ _ _⟩) ?_;rintro u ⟨τ,rfl⟩;refine aga ?_;rw[hdst];exact h hS
end
theorem apd (V:BkV) (B:Bk) (xs:List Int) (xa:Option Addr) (xc:Nat) (p:Int) (w:wD) (hs:aB w V B) (hv:Vars w) (hx:SlI w xa xs) (hxl:xs.length<=1000000) (A:Int) (hA: ¬aH B xs true=0/\A=aH B xs true\/aH B xs true=0/\btw p 0 100=false/\A=1):
  Calls tP 26 #[V.val B,sL xa xs.length xc,iN qi p] w fun e w'=>e= .returned (.tuple #[iN qi 0,.bool false,iN qi A])/\bX w.heap.size w w':=by
 obtain⟨ta,la,pa,tc,lc,pc⟩:=V;have hb0:bX w.heap.size w (w.alloc (cL #[iN qi B.hours,sL ta B.towns.length tc,sL la B.links.length lc,sL pa B.pairs.length pc] 26)):=(bR _ _).alloc (nR _) _;have HC:=lH (c55 ⟨ta,la,pa,tc,lc,pc⟩ B xs xa xc true _ (hs.below hb0 (nR _)) (hv.v2.below hb0 (nR _)) (hx.below hb0 (nR _)) hxl);have HB0:=lH hb0;have HA:=lH hA;clear hb0 hs hv hx hA;generalize aH B xs true=al at *;go_enter Tryz.func26,Tryz.ntmps26
 go_wp2_with fail
 refine HC.out.mono ?_;rintro e W ⟨rfl,hb1⟩;have HBW:=lH (HB0.out.trans (hb1.mono (by simp)));clear hb1 HC HB0
 rcases HA.out with ⟨h1,rfl⟩ |⟨rfl,h2,rfl⟩
 ·rw[lC h1];have hA3:(A != 0)=true:=by simpa using h1
  clear h1 HA;go_wp2;refine bodyPost_ret (v:= .tuple #[iN qi 0,.bool false,iN qi A]) (by simp[results,Tryz.results26,go_sem]) rfl ⟨rfl,HBW.out.alloc HBW.out.size _⟩
 ·rw[jE];have Hbt:=lH h2;clear h2 HA
  go_wp2_with fail
  refine(c69 p 0 100 _).mono ?_;rintro e w0 ⟨rfl,rfl⟩;rw[Hbt.out];go_wp2;refine bodyPost_ret (v:= .tuple #[iN qi 0,.bool false,iN qi 1]) (by simp[results,Tryz.results26,go_sem]) rfl ⟨rfl,HBW.out.alloc HBW.out.size _⟩
section
variable {u:wD} {b1:Nat} {V:BkV} {B:Bk} {xs:List Int} {xa:Option Addr} {xc:Nat} {p k n x1 x2:Int}
theorem apD {O:Bk} {A:Int} (hB:dL u b1 V B) (hpc:V.pa=none->V.pc=0) (hO:aoI B p=O) (hA:aoK B p=A):iK tP 23 #[V.val B,iN qi p] u fun v w'=>(∃V':BkV,v= .tuple #[V'.val O,iN qi A]/\aB w' V' O)/\Kept u.heap.size u w':=by
 subst hO hA;exact acs (X:=fun v w'=> ∃V':BkV,v= .tuple #[V'.val (aoI B p),iN qi (aoK B p)]/\aB w' V' (aoI B p)) (fun _ _ _ ⟨V',e,h⟩ k=>⟨V',e,h.kept k⟩) fun τ=>(m23 V B p (u.tp τ 0 noJ) (hB.kept jD).book (hB.kept jD).vars hpc).mono fun _ _ ⟨V',e1,hi,hb⟩=>⟨_,e1,⟨V',rfl,hi⟩,hb⟩
theorem apE {O:Bk} {A:Int} (hB:dL u b1 V B) (hz: ∀t∈B.towns,t.size<=1000000) (hO:aoI B p=O) (hA:aoK B p=A):iK tP 24 #[V.val B,iN qi p] u fun v w'=>(∃V':BkV,v= .tuple #[V'.val O,iN qi A]/\aB w' V' O)/\Kept u.heap.size u w':=by
 subst hO hA;exact acs (X:=fun v w'=> ∃V':BkV,v= .tuple #[V'.val (aoI B p),iN qi (aoK B p)]/\aB w' V' (aoI B p)) (fun _ _ _ ⟨V',e,h⟩ k=>⟨V',e,h.kept k⟩) fun τ=>(r24 V B p (u.tp τ 0 noJ) (hB.kept jD).book hz).mono fun _ _ ⟨V',e1,hi,hb⟩=>⟨_,e1,⟨V',rfl,hi⟩,hb⟩
theorem apF {O:Bk} {A:Int} (hB:dL u b1 V B) (hpc:V.pa=none->V.pc=0) (hO:aoN B k n x1 x2=O) (hA:aoJ B k n x1 x2=A):iK tP 28 #[V.val B,iN qi k,iN qi n,.agg #[iN qi x1,iN qi x2]] u fun v w'=>(∃V':BkV,v= .tuple #[V'.val O,iN qi A]/\aB w' V' O)/\Kept u.heap.size u w':=by
 subst hO hA;exact acs (X:=fun v w'=> ∃V':BkV,v= .tuple #[V'.val (aoN B k n x1 x2),iN qi (aoJ B k n x1 x2)]/\aB w' V' (aoN B k n x1 x2)) (fun _ _ _ ⟨V',e,h⟩ k=>⟨V',e,h.kept k⟩) fun τ=>(m28 V B k n x1 x2 (u.tp τ 0 noJ) (hB.kept jD).book (hB.kept jD).vars hpc).mono fun _ _ ⟨V',e1,hi,hb⟩=>⟨_,e1,⟨V',rfl,hi⟩,hb⟩
theorem apG {O:Bk} {A:Int} (hB:dL u b1 V B) (hz: ∀t∈B.towns,t.size<=1000000) (hO:aoN B k n x1 x2=O) (hA:aoJ B k n x1 x2=A):iK tP 29 #[V.val B,iN qi k,iN qi n,.agg #[iN qi x1,iN qi x2]] u fun v w'=>(∃V':BkV,v= .tuple #[V'.val O,iN qi A]/\aB w' V' O)/\Kept u.heap.size u w':=by
 subst hO hA;exact acs (X:=fun v w'=> ∃V':BkV,v= .tuple #[V'.val (aoN B k n x1 x2),iN qi (aoJ B k n x1 x2)]/\aB w' V' (aoN B k n x1 x2)) (fun _ _ _ ⟨V',e,h⟩ k=>⟨V',e,h.kept k⟩) fun τ=>(r29 V B k n x1 x2 (u.tp τ 0 noJ) (hB.kept jD).book hz).mono fun _ _ ⟨V',e1,hi,hb⟩=>⟨_,e1,⟨V',rfl,hi⟩,hb⟩
theorem apH {v0:Value} (hB:dL u b1 V B) (hz: ∀t∈B.towns,t.size<=1000000) (hx:SlI u xa xs) (hxl:xs.length<=1000000) (hv:aoM B xs p=v0):iK tP 27 #[V.val B,sL xa xs.length xc,iN qi p] u fun v w'=>v=v0/\Kept u.heap.size u w':=by
 subst hv;exact acs (X:=fun v _=>v=aoM B xs p) (fun _ _ _ h _=>h) fun τ=>(r27 V B xs xa xc p (u.tp τ 0 noJ) (hB.kept jD).book hz (hx.kept jD) hxl).mono fun _ _ ⟨e1,hb⟩=>⟨_,e1,rfl,hb⟩
theorem apI {v0:Value} (hB:dL u b1 V B) (hpc:V.pa=none->V.pc=0) (hx:SlI u xa xs) (hxl:xs.length<=1000000) (hv:aoM B xs p=v0):iK tP 26 #[V.val B,sL xa xs.length xc,iN qi p] u fun v w'=>v=v0/\Kept u.heap.size u w':=by
 subst hv;by_cases hR:aH B xs true=0
 ·cases hbt:btw p 0 100 with
  |true=>
   have e1:aoM B xs p=aaQ (tY (trk xs) p 7 0 B):=by unfold aoM;rw[if_pos hR,if_pos hbt]
   rw[e1];exact(aa7 u V B xs xa xc p hB.book hB.rows hpc hB.vars hx hxl hR hbt)
  |false=>
   have e1:aoM B xs p= .tuple #[iN qi 0,.bool false,iN qi 1]:=by unfold aoM;rw[if_pos hR,hbt];rfl
   rw[e1];exact acs (X:=fun v _=>v= .tuple #[iN qi 0,.bool false,iN qi 1]) (fun _ _ _ h _=>h) fun τ=>(apd V B xs xa xc p (u.tp τ 0 noJ) (hB.kept jD).book (hB.kept jD).vars (hx.kept jD) hxl _ (.inr ⟨hR,hbt,rfl⟩)).mono fun _ _ ⟨e1,hb⟩=>⟨_,e1,rfl,hb⟩
 ·have e1:aoM B xs p= .tuple #[iN qi 0,.bool false,iN qi (aH B xs true)]:=by unfold aoM;rw[if_neg hR]
  rw[e1];exact acs (X:=fun v _=>v= .tuple #[iN qi 0,.bool false,iN qi (aH B xs true)]) (fun _ _ _ h _=>h) fun τ=>(apd V B xs xa xc p (u.tp τ 0 noJ) (hB.kept jD).book (hB.kept jD).vars (hx.kept jD) hxl _ (.inl ⟨hR,rfl⟩)).mono fun _ _ ⟨e1,hb⟩=>⟨_,e1,rfl,hb⟩
theorem apJ: ∃(y:Int) (f:Bool) (s:Int),aoM B xs p= .tuple #[iN qi y,.bool f,iN qi s]:=by
 unfold aoM
 split
 ·split
  ·unfold aaQ
   split<;>exact⟨_,_,_,rfl⟩
  ·exact⟨_,_,_,rfl⟩
 ·exact⟨_,_,_,rfl⟩
theorem ape {V1 V2:BkV} {O:Bk} (h1:aB u V1 O) (h2:aB u V2 O):iK tP 25 #[V1.val O,V2.val O] u fun v w'=>v= .bool true/\Kept u.heap.size u w':=
 acs (X:=fun v _=>v= .bool true) (fun _ _ _ h _=>h) fun τ=>(r25 V1 V2 O (u.tp τ 0 noJ) (h1.kept jD) (h2.kept jD)).mono fun _ _ ⟨e1,hb⟩=>⟨_,e1,rfl,hb⟩
end
structure aoR (w:wD) (b:Nat) (x1 x2:Int):Prop where
 c0:w.cell? ⟨b,0,none⟩=some (iN qi x1)
 c1:w.cell? ⟨b,1,none⟩=some (iN qi x2)
theorem aoR.kept {w w':wD} {b:Nat} {x1 x2:Int} (h:aoR w b x1 x2) (hk:Kept w.heap.size w w'):aoR w' b x1 x2:=⟨dV hk (nR _) h.c0,dV hk (nR _) h.c1⟩
theorem afY.row4 {w:wD} {b:Nat} {V:BkV} {B:Bk} (h:afY w b V B):dW w b (iN qi B.hours) (sL V.ta B.towns.length V.tc) (sL V.la B.links.length V.lc) (sL V.pa B.pairs.length V.pc):=aij h.c0 h.c1 h.c2 h.c3 (h.fr 0) (h.fr 1) (h.fr 2) (h.fr 3)
theorem afY.box4 {w:wD} {b:Nat} {V:BkV} {B:Bk} (h:afY w b V B):afU w b:=⟨⟨⟨_,h.c0⟩,⟨_,h.c1⟩,⟨_,h.c2⟩,⟨_,h.c3⟩⟩,h.lt,h.fr⟩
theorem aB.putB {w:wD} {b:Nat} {V Vxx V':BkV} {O Bx O':Bk} (h:aB w V O) (hx:afY w b Vxx Bx):aB (afS w b V' O') V O:=h.put4 hx.row4
theorem afY.far {w:wD} {b c:Nat} {V:BkV} {B:Bk} (h:afY w b V B) (hne:c≠b) (V':BkV) (B':Bk):afY (afS w c V' B') b V B:=by
 have hc: ∀o,(afS w c V' B').cell? ⟨b,o,none⟩=w.cell? ⟨b,o,none⟩:=fun o=>by
  unfold afS;rw[wF _ _ _ _ hne,wF _ _ _ _ hne,wF _ _ _ _ hne,wF _ _ _ _ hne]
 refine⟨(hc 0).trans h.c0,(hc 1).trans h.c1,(hc 2).trans h.c2,(hc 3).trans h.c3, ?_,fun j=> ?_⟩
 ·unfold afS;simpa using h.lt
 ·unfold afS;rw[World.frozen?_setCell,World.frozen?_setCell,World.frozen?_setCell,World.frozen?_setCell];exact h.fr j
section
variable {f:FuncId} {N d s t:Nat} {a:Act} {w:wD} {l:List (Nat×Value)} {ops:Array Oper} {i:Nat} {rest:List Nat} {kk:List Item} {R:Value->wD->Prop} {o:Oper}
theorem apf {b:Nat} {x1 x2:Int} (hS:Sl a N l) (hc:aoR w b x1 x2) (h: ∀a',Sl a' N ((d,.agg #[iN qi x1,iN qi x2])::l)->GL tP f (.inRegion ops rest::kk) R a' w)
  (hs:a.tmps[s]?.getD ud= pN (some ⟨b,0,none⟩)) (ho:ops[i]? =some o:=by rfl) (hw:Region.wanted o (yielded ops a.tmps)=true:=by rfl) (hdst:o.dst=some d:=by rfl) (hd:d<N:=by decide) (hn:(l.map (·.1)).contains d=false:=by rfl) (hp:o.op= .load 43 (.tmp s):=by rfl):GL tP f (.inRegion ops (i::rest)::kk) R a w:=vg hS ho hw hdst hd hn (fun τ=>by
   obtain⟨c0,c1⟩:=hc.kept (w':=w.tp τ 0 noJ) jD;generalize w.tp τ 0 noJ=u at *;obtain⟨dd,oo,ty,po,af,gu⟩:=o;simp only at hp;subst hp;go_simp) h
theorem aoW {b1:Nat} {V:BkV} {B:Bk} (hB:afY w b1 V B) (hS:Sl a N l) (h: ∀a',Sl a' N ((d,V.val B)::l)->GL tP f (.inRegion ops rest::kk) R a' w)
  (hs:a.tmps[s]?.getD ud= pN (some ⟨b1,0,none⟩)) (ho:ops[i]? =some o:=by rfl) (hw:Region.wanted o (yielded ops a.tmps)=true:=by rfl) (hdst:o.dst=some d:=by rfl) (hd:d<N:=by decide) (hn:(l.map (·.1)).contains d=false:=by rfl) (hp:o.op= .load 26 (.tmp s):=by rfl):
  GL tP f (.inRegion ops (i::rest)::kk) R a w:=vg hS ho hw hdst hd hn (fun τ=>by
   obtain⟨c0,c1,c2,c3,_,_⟩:=hB.kept (w':=w.tp τ 0 noJ) jD;obtain⟨dd,oo,ty,po,af,gu⟩:=o;simp only at hp;subst hp;go_simp) h
end
end Go.Proofs.YtaikibfkggglgaaGreatDoor
