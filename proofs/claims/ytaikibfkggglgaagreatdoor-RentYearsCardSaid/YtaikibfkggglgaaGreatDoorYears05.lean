/- A part of the proof of a law; no conditions of its own. -/
import Derived.Test.YtaikibfkggglgaaGreatDoorYears04
open Go.RowKit renaming Below→bX
open Go renaming World→wD
open Go.IntKind renaming i64→qi
open Go.Value renaming int→iN, slice→sL, pointer→pN
open Go.Ending renaming returned→rT
open Go.Obj renaming cells→cL
set_option maxRecDepth 100000
open Nat renaming le_refl→nR
open Go.Lib renaming hid→lH
open Go.RowKit.Below renaming refl→bR
open Go.Proofs.Tryz renaming prog→tP
open List renaming getElem?_eq_getElem→lG
open Go.World renaming cell?_setCell_other→wO
open Go.World renaming cell?_setCell_far→wF
set_option maxHeartbeats 4000000
namespace Go.Proofs.YtaikibfkggglgaaGreatDoor
open Go.RowKit Go.Rent Go.Tp Go.Conc
def noV:BkV:=⟨none,none,none,0,0,0⟩
def noB:Bk:=⟨0,[],[],[]⟩
theorem apu (w:wD):aB w noV noB:=⟨fun i t h=>by simp[noB] at h,fun i t h=>by simp[noB] at h,fun i t h=>by simp[noB] at h,by simp[noB],by simp[noB],by simp[noB],by simp[noB,noV]⟩
def BkQ (O:Bk) (A:Int) (w:wD) (e:Ending) (w':wD):Prop:= ∃V':BkV,e= rT (.tuple #[V'.val O,iN qi A])/\aB w' V' O/\bX w.heap.size w w'
theorem aoO {w w':wD} {A:Int} (hb:bX w.heap.size w w'):BkQ noB A w (rT (.tuple #[.agg #[iN qi 0,sL none 0 0,sL none 0 0,sL none 0 0],iN qi A])) w':=⟨noV,rfl,apu _,hb⟩
def aoK (B:Bk) (p:Int):Int:=if B.alarm=0 then (if btw p 0 100=true then (bQ B p).alarm else 1) else B.alarm
def aoI (B:Bk) (p:Int):Bk:=if aoK B p=0 then bQ B p else noB
theorem r24 (V:BkV) (B:Bk) (p:Int) (w:wD) (hs:aB w V B) (hz: ∀t∈B.towns,t.size<=1000000):
  Calls tP 24 #[V.val B,iN qi p] w (BkQ (aoI B p) (aoK B p) w):=by
 obtain⟨ta,la,pa,tc,lc,pc⟩:=V;have hb0:bX w.heap.size w ((w.alloc (cL #[iN qi B.hours,sL ta B.towns.length tc,sL la B.links.length lc,sL pa B.pairs.length pc] 26)).alloc (cL #[iN qi 0,sL none 0 0,sL none 0 0,sL none 0 0] 26)):=((bR _ _).alloc (nR _) _).alloc (by simp) _;have HC:=lH (c20 ⟨ta,la,pa,tc,lc,pc⟩ B _ (hs.below hb0 (nR _)) hz);have HT:=lH (GN w (cL #[iN qi B.hours,sL ta B.towns.length tc,sL la B.links.length lc,sL pa B.pairs.length pc] 26) (cL #[iN qi 0,sL none 0 0,sL none 0 0,sL none 0 0] 26));have HB0:=lH hb0;have Hs:=lH hs;have Hz:=lH hz;have hnp:=hs.np;clear hb0 hs hz;by_cases hA:B.alarm=0
 ·have HG:=lH (gY hA);rw[hA] at HC
  cases hbt:btw p 0 100 with
  |false=>
   have e1:aoK B p=1:=by unfold aoK;rw[if_pos hA,hbt];rfl
   have e2:aoI B p=noB:=by unfold aoI;rw[e1];rfl
   rw[e1,e2];have HE:Hid (∀w',bX w.heap.size w w'->BkQ noB 1 w (rT (.tuple #[.agg #[iN qi 0,sL none 0 0,sL none 0 0,sL none 0 0],iN qi 1])) w'):=lH fun w' h=>aoO h;generalize BkQ noB 1 w=Q at *;have HBT:=lH hbt;clear hA e1 e2 hbt;go_enter Tryz.func24,Tryz.ntmps24
   go_wp2_with fail
   refine HC.out.mono ?_;rintro e W ⟨rfl,hb1⟩;obtain⟨_,b0,b1,b2,b3,_,_,_,_⟩:=(row4 HT.out.1).below hb1 (by simp;omega);obtain⟨_,e0,e1,e2,e3,g0,g1,g2,g3⟩:=(row4 HT.out.2).below hb1 (by simp);have HBW:=lH (HB0.out.trans (hb1.mono (by simp;omega)));clear hb1 HC HB0 HT
   go_wp2_with fail
   refine(gU p 0 100 _).mono ?_;rintro e w0 ⟨rfl,rfl⟩;rw[HBT.out];go_wp2;refine bodyPost_ret (v:= .tuple #[.agg #[iN qi 0,sL none 0 0,sL none 0 0,sL none 0 0],iN qi 1]) (by simp[results,Tryz.results24,go_sem,e0,e1,e2,e3]) rfl (HE.out _ ?_);exact aik HBW.out (by omega) rfl _ _ _ _
  |true=>
   have hp:0<=p/\p<=100:=by simpa[btw] using hbt
   have e1:aoK B p=(bQ B p).alarm:=by unfold aoK;rw[if_pos hA,hbt];rfl
   have Hc:=lH (ao1 B p);have HEb:Hid ((bQ B p).alarm≠0-> ∀w',bX w.heap.size w w'->BkQ (aoI B p) (aoK B p) w (rT (.tuple #[.agg #[iN qi 0,sL none 0 0,sL none 0 0,sL none 0 0],iN qi (bQ B p).alarm])) w'):=lH fun hne w' h=>by
    have e2:aoI B p=noB:=by unfold aoI;rw[e1,if_neg hne]
    rw[e2,e1];exact aoO h
   have HEo:Hid ((bQ B p).alarm=0-> ∀(V':BkV) w',aB w' V' (aoH B p)->bX w.heap.size w w'->BkQ (aoI B p) (aoK B p) w (rT (.tuple #[V'.val (aoH B p),iN qi 0])) w'):=lH fun h0 V' w' hi h=>by
    have e2:aoI B p=aoH B p:=by unfold aoI;rw[e1,if_pos h0,ao3 h0]
    rw[e2,e1,h0];exact⟨V',rfl,hi,h⟩
   have HBT:=lH hbt;generalize BkQ (aoI B p) (aoK B p) w=Q at *;clear hA e1 hbt;go_enter Tryz.func24,Tryz.ntmps24
   go_wp2_with fail
   refine HC.out.mono ?_;rintro e W ⟨rfl,hb1⟩;obtain⟨_,b0,b1,b2,b3,_,_,_,_⟩:=(row4 HT.out.1).below hb1 (by simp;omega);have HR:=lH ((row4 HT.out.2).below hb1 (by simp));have HBW:=lH (HB0.out.trans (hb1.mono (by simp;omega)));clear hb1 HC HB0 HT
   go_wp2_with fail
   refine(gU p 0 100 _).mono ?_;rintro e w0 ⟨rfl,rfl⟩;rw[HBT.out];have HC2:=lH (r68 ⟨ta,la,pa,tc,lc,pc⟩ B HG.out p hp W (Hs.out.below HBW.out (nR _)))
   go_wp2_with fail
   refine HC2.out.mono ?_;rintro e W2 ⟨na,nc,rfl,hi2,_,_,hb2⟩;have HR2:=lH (HR.out.below hb2 HR.out.z);have HBW2:=lH (HBW.out.trans (hb2.mono HBW.out.size));have hb3:bX W2.heap.size W2 (W2.alloc (cL #[iN qi B.hours,sL ta B.towns.length tc,sL la B.links.length lc,sL na B.pairs.length nc] 26)):=(bR _ _).alloc (nR _) _;have HI:=lH (hi2.below hb3 (nR _));have HC3:=lH (c20 ⟨ta,la,na,tc,lc,nc⟩ (aoH B p) _ HI.out Hz.out);have hval:(⟨ta,la,na,tc,lc,nc⟩:BkV).val (aoH B p)= .agg #[iN qi B.hours,sL ta B.towns.length tc,sL la B.links.length lc,sL na B.pairs.length nc]:=by simp[BkV.val,aoH]
   have HV:=lH hval;rw[hval] at HC3;have HB3:=lH (HBW2.out.trans (hb3.mono HBW2.out.size));have HR3:=lH (HR2.out.below hb3 HR2.out.z);clear hi2 hb2 hb3 HC2;rw[hval];clear hval;have HN:=lH (ahT W2 26 (iN qi B.hours) (sL ta B.towns.length tc) (sL la B.links.length lc) (sL na B.pairs.length nc))
   go_wp2_with fail
   refine HC3.out.mono ?_;rintro e W4 ⟨rfl,hb4⟩;rw[Hc.out];have HB4:=lH (HB3.out.trans (hb4.mono HB3.out.size));have HI4:=lH (HI.out.below hb4 (nR _));have HR4:=lH (HR3.out.below hb4 HR3.out.z);obtain⟨_,e0,e1,e2,e3,g0,g1,g2,g3⟩:=HR4.out;obtain⟨_,n0,n1,n2,n3,_,_,_,_⟩:=HN.out.below hb4 (by simp);have hlt:w.heap.size+1<W2.heap.size:=HR2.out.z;have hne:W2.heap.size≠w.heap.size+1:=by omega
   clear hb4 HC3 HN;by_cases hA2:(bQ B p).alarm=0
   ·have HEo2:=lH (HEo.out hA2);rw[hA2];clear hA2 HEo HEb;have HF:Hid (∀x0 x1 x2 x3,bX w.heap.size w ((((W4.setCell ⟨w.heap.size+1,0,none⟩ x0).setCell ⟨w.heap.size+1,1,none⟩ x1).setCell ⟨w.heap.size+1,2,none⟩ x2).setCell ⟨w.heap.size+1,3,none⟩ x3)):=lH fun x0 x1 x2 x3=>aik HB4.out (by omega) rfl x0 x1 x2 x3;go_wp2;refine bodyPost_ret (v:= .tuple #[.agg #[iN qi B.hours,sL ta B.towns.length tc,sL la B.links.length lc,sL na B.pairs.length nc],iN qi 0]) (by simp[results,Tryz.results24,go_sem,e0,e1,e2,e3]) rfl ?_;rw[<-HV.out];refine HEo2.out _ _ ?_ (HF.out _ _ _ _);exact HI4.out.put4 HR4.out
   ·have HEb2:=lH (HEb.out hA2);have hA3:((bQ B p).alarm != 0)=true:=by simpa using hA2
    clear HEo HEb hA2;generalize (bQ B p).alarm=A at *;go_wp2;refine bodyPost_ret (v:= .tuple #[.agg #[iN qi 0,sL none 0 0,sL none 0 0,sL none 0 0],iN qi A]) (by simp[results,Tryz.results24,go_sem,e0,e1,e2,e3]) rfl (HEb2.out _ ?_);exact aik HB4.out (by omega) rfl _ _ _ _
 ·have e1:aoK B p=B.alarm:=by unfold aoK;rw[if_neg hA]
  have e2:aoI B p=noB:=by unfold aoI;rw[e1,if_neg hA]
  rw[e1,e2];have HE:Hid (∀w',bX w.heap.size w w'->BkQ noB B.alarm w (rT (.tuple #[.agg #[iN qi 0,sL none 0 0,sL none 0 0,sL none 0 0],iN qi B.alarm])) w'):=lH fun w' h=>aoO h;have hA3:(B.alarm != 0)=true:=by simpa using hA
  generalize BkQ noB B.alarm w=Q at *;clear hA e1 e2;generalize B.alarm=A at *;go_enter Tryz.func24,Tryz.ntmps24
  go_wp2_with fail
  refine HC.out.mono ?_;rintro e W ⟨rfl,hb1⟩;obtain⟨_,b0,b1,b2,b3,_,_,_,_⟩:=(row4 HT.out.1).below hb1 (by simp;omega);obtain⟨_,e0,e1,e2,e3,g0,g1,g2,g3⟩:=(row4 HT.out.2).below hb1 (by simp);have HBW:=lH (HB0.out.trans (hb1.mono (by simp;omega)));clear hb1 HC HB0 HT;go_wp2;refine bodyPost_ret (v:= .tuple #[.agg #[iN qi 0,sL none 0 0,sL none 0 0,sL none 0 0],iN qi A]) (by simp[results,Tryz.results24,go_sem,e0,e1,e2,e3]) rfl (HE.out _ ?_);exact aik HBW.out (by omega) rfl _ _ _ _
def ag4 (B:Bk) (i h:Nat) (x1 x2:Int):Int×Int:=(max (iD B i h).1 x1,min (iD B i h).2 x2)
def ahi:Value:= .agg #[iN qi 0,sL none 0 0,sL none 0 0,sL none 0 0]
def ahv (B:Bk) (i h:Nat) (x1 x2:Int) (w:wD) (e:Ending) (w':wD):Prop:=
  ((dw (x1,x2)=false/\e= rT (.tuple #[ahi,iN qi 1]))\/
   (dw (x1,x2)=true/\(ag4 B i h x1 x2).2<(ag4 B i h x1 x2).1/\e= rT (.tuple #[ahi,iN qi 10]))\/
   (dw (x1,x2)=true/\(ag4 B i h x1 x2).1<=(ag4 B i h x1 x2).2/\ ∃V' O,e= rT (.tuple #[V'.val B,iN qi 0])/\bI w' w.heap.size V' (fD B i h (ag4 B i h x1 x2)) O))/\bX w.heap.size w w'
theorem c53 (V:BkV) (B:Bk) (i h:Nat) (x1 x2:Int) (w:wD) (hs:aB w V B) (hv:Vars w) (hpc:V.pa=none->V.pc=0) (hA:B.alarm=0) (hi:i<B.pairs.length) (hh:(h:Int)<B.hours):
  Calls tP 28 #[V.val B,iN qi (i:Int),iN qi (h:Int),.agg #[iN qi x1,iN qi x2]] w (ahv B i h x1 x2 w):=by
 obtain⟨ta,la,pa,tc,lc,pc⟩:=V;have hG:=gY hA;have hp1:=hG.fine.pairs;have hh1:=hG.fine.hours;have hbi:btw (i:Int) 0 ((B.pairs.length:Int)-1)=true:=by unfold btw;simp;omega
 have hth:bP B (h:Int)=true:=by
  unfold bP;rw[show RowKit.wrap64 (B.hours-1)=B.hours-1 from IntWalk.wrap64_in _ (by omega)];simp[btw];omega
 have hal:fF B (bP B (h:Int))=0:=by rw[hth];simp[fF,hA]
 have hres:bU ⟨ta,la,pa,tc,lc,pc⟩ B (fF B (bP B (h:Int)))= .tuple #[.agg #[iN qi B.hours,sL ta B.towns.length tc,sL la B.links.length lc,sL pa B.pairs.length pc],iN qi 0]:=by rw[hal];rfl
 have hp0:B.pairs[i]? =some B.pairs[i]:=lG hi;have hL:=(hG.fine.calls i _ hp0).1;have hh2:h<B.pairs[i].calls.length:=by omega
 have hqx:B.pairs[i].calls[h]? =some (iD B i h):=by
  unfold iD;rw[hp0,Option.bind_some,lG hh2];rfl
 have Hbb:=lH (ahh hA hi hh);have Hs:=lH hs;have Hv:=lH hv;have Hpc:=lH hpc;have HG:=lH hG;have Hres:=lH hres;have Hbi:=lH hbi;have HK:Hid (ag4 B i h x1 x2=(max (iD B i h).1 x1,min (iD B i h).2 x2)):=lH rfl;have Hq:=lH (And.intro hp0 (And.intro hh2 hqx));have hpl:(B.pairs[i].calls.length:Int)=B.hours:=hL;generalize hpi:B.pairs[i]=pi at *;clear hs hv hpc hG hres hbi hal hth hA hp0 hqx hpi hL;go_enter Tryz.func28,Tryz.ntmps28
 go_wp2_with fail
 generalize hWd:((w.alloc (cL #[iN qi B.hours,sL ta B.towns.length tc,sL la B.links.length lc,sL pa B.pairs.length pc] 26)).alloc (cL #[iN qi x1,iN qi x2] 43)).alloc (cL #[iN qi 0,sL none 0 0,sL none 0 0,sL none 0 0] 26)=W;have HBW:Hid (bX w.heap.size w W):=lH (by subst hWd;exact(((bR _ _).alloc (nR _) _).alloc (by simp) _).alloc (by simp;omega) _);have HZ:Hid (W.heap.size=w.heap.size+3):=lH (by subst hWd;simp);have k0:W.cell? ⟨w.heap.size,0,none⟩=some (iN qi B.hours):=by subst hWd;go_simp
 have k1:W.cell? ⟨w.heap.size,1,none⟩=some (sL ta B.towns.length tc):=by subst hWd;go_simp
 have k2:W.cell? ⟨w.heap.size,2,none⟩=some (sL la B.links.length lc):=by subst hWd;go_simp
 have k3:W.cell? ⟨w.heap.size,3,none⟩=some (sL pa B.pairs.length pc):=by subst hWd;go_simp
 have HX:Hid (W.cell? ⟨w.heap.size+1,0,none⟩=some (iN qi x1)/\W.cell? ⟨w.heap.size+1,1,none⟩=some (iN qi x2)):=lH (by subst hWd;exact⟨by go_simp,by go_simp⟩);have HR:Hid (dW W (w.heap.size+2) (iN qi 0) (sL none 0 0) (sL none 0 0) (sL none 0 0)):=lH (by subst hWd;exact⟨by simp,by go_simp,by go_simp,by go_simp,by go_simp,by go_simp,by go_simp,by go_simp,by go_simp⟩);clear hWd;refine Code.wp_mono ?_ (ahl ta la pa tc lc pc B (i:Int) (h:Int) Hbi.out w W _ _ Hs.out Hv.out HBW k0 k1 k2 k3 B.hours ta la pa tc lc pc B.towns.length B.links.length B.pairs.length 0 Hres.out);rintro e a w' hq
 cases e with
 |normal=>
  obtain⟨b8,rfl,hb8,hbel,hrow⟩:=hq;have hz:=HZ.out;have b1:=ak hbel;have q0:=(b1.1 (w.heap.size+1) 0 (by omega)).trans HX.out.1;have q1:=(b1.1 (w.heap.size+1) 1 (by omega)).trans HX.out.2;have HRow:=lH hrow;have HBw':=lH hbel;have Hb8:=lH hb8;clear k0 k1 k2 k3 b1 hbel hrow hb8
  go_wp2_with fail
  refine(c90 x1 x2 _).mono ?_;rintro e w2 ⟨rfl,hb2⟩;have HB2:Hid (bX W.heap.size W w2):=lH (HBw'.out.trans (hb2.mono HBw'.out.size));have HRw2:=lH (HRow.out.below hb2 HRow.out.z);clear hb2 q0 q1;by_cases hbo:dw (x1,x2)=true
  ·obtain⟨z8,c0,c1,c2,c3,f0,f1,f2,f3⟩:=HRw2.out;have Hbo:=lH hbo;rw[hbo];have hbx:0<=x1/\x1<=x2/\x2<=5:=by simpa[dw] using hbo
   clear hbo
   go_wp2_with fail
   refine(c91 ⟨ta,la,pa,tc,lc,pc⟩ B HG.out w2 ((Hs.out.below HBW.out (nR _)).below HB2.out (nR _)) Hpc.out).mono ?_;rintro e w3 ⟨V1,O,rfl,hO,hb3⟩;obtain⟨va,vl,vp,vtc,vlc,vpc⟩:=V1;have hr3:=HRw2.out.below hb3 HRw2.out.z;have HZ2:=lH HB2.out.size;have HO:=lH hO;have Hb3:=lH hb3;clear hO hb3 c0 c1 c2 c3 f0 f1 f2 f3 z8;obtain⟨z8,c0,c1,c2,c3,f0,f1,f2,f3⟩:=hr3;have hb8:=Hb8.out;have z8':b8<w2.heap.size:=HRw2.out.z;have hpa:=HO.out.pa i pi Hq.out.1;simp only at hpa;subst hpa;have HO1:Hid (bI ((((w3.setCell ⟨b8,0,none⟩ (iN qi B.hours)).setCell ⟨b8,1,none⟩ (sL va B.towns.length vtc)).setCell ⟨b8,2,none⟩ (sL vl B.links.length vlc)).setCell ⟨b8,3,none⟩ (sL (some ⟨O.pb,0,none⟩) B.pairs.length vpc)) w2.heap.size ⟨va,vl,some ⟨O.pb,0,none⟩,vtc,vlc,vpc⟩ B O):=lH ((((HO.out.far _ z8').far _ z8').far _ z8').far _ z8');obtain⟨_,_,sc,l2⟩:=HO1.out.pairs i pi Hq.out.1;obtain⟨d0,d1⟩:=HO1.out.calls i pi h _ Hq.out.1 Hq.out.2.2;have hfr:=(HO1.out.free i pi Hq.out.1).2;have Hcb:=lH (HO1.out.free i pi Hq.out.1).1;have e0:=hfr (h*2);have e1:=hfr (h*2+1);have hzp:=HO.out.lo.2.2.1;have hcb:=(HO.out.free i pi Hq.out.1).1.2;have hi':(i:Int)<(B.pairs.length:Int):=by omega
   have hi0:(0 :Int)<=(i:Int):=Int.natCast_nonneg _;have hh0:(0 :Int)<=(h:Int):=Int.natCast_nonneg _;have hhL:(h:Int)<(pi.calls.length:Int):=by omega
   have hz2:=HZ2.out;have y0:=((ak Hb3.out).1 (w.heap.size+1) 0 (by omega)).trans (((ak HB2.out).1 (w.heap.size+1) 0 (by omega)).trans HX.out.1);have y1:=((ak Hb3.out).1 (w.heap.size+1) 1 (by omega)).trans (((ak HB2.out).1 (w.heap.size+1) 1 (by omega)).trans HX.out.2);clear hfr
   go_wp2_with fail
   have HB8:Hid (bX W.heap.size W ((((w3.setCell ⟨b8,0,none⟩ (iN qi B.hours)).setCell ⟨b8,1,none⟩ (sL va B.towns.length vtc)).setCell ⟨b8,2,none⟩ (sL vl B.links.length vlc)).setCell ⟨b8,3,none⟩ (sL (some ⟨O.pb,0,none⟩) B.pairs.length vpc))):=lH (((((HB2.out.trans (Hb3.out.mono HB2.out.size)).setCell (p:=⟨b8,0,none⟩) hb8 _).setCell (p:=⟨b8,1,none⟩) hb8 _).setCell (p:=⟨b8,2,none⟩) hb8 _).setCell (p:=⟨b8,3,none⟩) hb8 _);have HXX:Hid (((((w3.setCell ⟨b8,0,none⟩ (iN qi B.hours)).setCell ⟨b8,1,none⟩ (sL va B.towns.length vtc)).setCell ⟨b8,2,none⟩ (sL vl B.links.length vlc)).setCell ⟨b8,3,none⟩ (sL (some ⟨O.pb,0,none⟩) B.pairs.length vpc)).cell? ⟨w.heap.size+1,0,none⟩=some (iN qi x1)/\((((w3.setCell ⟨b8,0,none⟩ (iN qi B.hours)).setCell ⟨b8,1,none⟩ (sL va B.towns.length vtc)).setCell ⟨b8,2,none⟩ (sL vl B.links.length vlc)).setCell ⟨b8,3,none⟩ (sL (some ⟨O.pb,0,none⟩) B.pairs.length vpc)).cell? ⟨w.heap.size+1,1,none⟩=some (iN qi x2)):=lH ⟨((ak HB8.out).1 (w.heap.size+1) 0 (by omega)).trans HX.out.1,((ak HB8.out).1 (w.heap.size+1) 1 (by omega)).trans HX.out.2⟩;have HH8:Hid (((((w3.setCell ⟨b8,0,none⟩ (iN qi B.hours)).setCell ⟨b8,1,none⟩ (sL va B.towns.length vtc)).setCell ⟨b8,2,none⟩ (sL vl B.links.length vlc)).setCell ⟨b8,3,none⟩ (sL (some ⟨O.pb,0,none⟩) B.pairs.length vpc)).cell? ⟨b8,0,none⟩=some (iN qi B.hours)/\((((w3.setCell ⟨b8,0,none⟩ (iN qi B.hours)).setCell ⟨b8,1,none⟩ (sL va B.towns.length vtc)).setCell ⟨b8,2,none⟩ (sL vl B.links.length vlc)).setCell ⟨b8,3,none⟩ (sL (some ⟨O.pb,0,none⟩) B.pairs.length vpc)).cell? ⟨b8,1,none⟩=some (sL va B.towns.length vtc)/\((((w3.setCell ⟨b8,0,none⟩ (iN qi B.hours)).setCell ⟨b8,1,none⟩ (sL va B.towns.length vtc)).setCell ⟨b8,2,none⟩ (sL vl B.links.length vlc)).setCell ⟨b8,3,none⟩ (sL (some ⟨O.pb,0,none⟩) B.pairs.length vpc)).cell? ⟨b8,2,none⟩=some (sL vl B.links.length vlc)/\((((w3.setCell ⟨b8,0,none⟩ (iN qi B.hours)).setCell ⟨b8,1,none⟩ (sL va B.towns.length vtc)).setCell ⟨b8,2,none⟩ (sL vl B.links.length vlc)).setCell ⟨b8,3,none⟩ (sL (some ⟨O.pb,0,none⟩) B.pairs.length vpc)).cell? ⟨b8,3,none⟩=some (sL (some ⟨O.pb,0,none⟩) B.pairs.length vpc)):=lH ⟨by go_simp,by go_simp,by go_simp,by go_simp⟩;generalize hW1:((((w3.setCell ⟨b8,0,none⟩ (iN qi B.hours)).setCell ⟨b8,1,none⟩ (sL va B.towns.length vtc)).setCell ⟨b8,2,none⟩ (sL vl B.links.length vlc)).setCell ⟨b8,3,none⟩ (sL (some ⟨O.pb,0,none⟩) B.pairs.length vpc))=W1 at *;clear hW1 l2 c0 c1 c2 c3 f0 f1 f2 f3 y0 y1 z8;obtain⟨y0,y1⟩:=HXX.out;have hn8:w.heap.size+1≠O.cb i:=by omega
   have hzc:=Hcb.out.1;obtain⟨o1,o2,hoo⟩: ∃o1 o2,iD B i h=(o1,o2):=⟨_,_,rfl⟩;have hbb:=Hbb.out;have Hk2:=HK.out;have Hq2:=Hq.out;rw[hoo] at hbb Hk2 d0 d1;simp only at hbb Hk2 d0 d1;have HKn:=lH Hk2;have w1r:(if o1<x1 then x1 else o1)=max o1 x1:=by split<;>omega
   have w2r:(if x2<o2 then x2 else o2)=min o2 x2:=by split<;>omega
   have HS:Hid (∀y1 y2:Int,bI ((W1.setCell ⟨O.cb i,h*2,none⟩ (iN qi y1)).setCell ⟨O.cb i,h*2+1,none⟩ (iN qi y2)) w2.heap.size ⟨va,vl,some ⟨O.pb,0,none⟩,vtc,vlc,vpc⟩ (fD B i h (y1,y2)) O):=lH fun y1 y2=>HO1.out.store Hq.out.1 Hq.out.2.1 (y1,y2);have HBS:Hid (∀y1 y2:Int,bX W.heap.size W ((W1.setCell ⟨O.cb i,h*2,none⟩ (iN qi y1)).setCell ⟨O.cb i,h*2+1,none⟩ (iN qi y2))):=lH fun y1 y2=>(HB8.out.setCell (p:=⟨O.cb i,h*2,none⟩) (Nat.le_trans HB2.out.size Hcb.out.2) _).setCell (p:=⟨O.cb i,h*2+1,none⟩) (Nat.le_trans HB2.out.size Hcb.out.2) _;have hn2:b8≠O.cb i:=by omega
   clear Hk2 Hq2;refine ahn 17 17 (by kernel_rfl) ?_
   change LaB _ _ _ _ _ _ _ W1.drew
   refine ag5 0 (pN (some ⟨O.cb i,h*2,none⟩)) ?_ (hr:=by go_simp);refine ag5 1 (pN (some ⟨O.cb i,h*2,none⟩)) ?_ (hr:=by go_simp);refine ag5 2 (pN (some ⟨O.cb i,h*2,none⟩)) ?_ (hr:=by go_simp);refine ag5 3 (pN (some ⟨O.cb i,h*2,none⟩)) ?_ (hr:=by go_simp);refine ag5 4 (iN qi o1) ?_ (hr:=by go_simp);refine ag5 5 (pN (some ⟨w.heap.size+1,0,none⟩)) ?_ (hr:=by go_simp);refine ag5 6 (iN qi x1) ?_ (hr:=by go_simp);refine ag5 7 (iN qi (max o1 x1)) ?_ (hr:=by go_simp);refine ag5 8 (pN (some ⟨O.cb i,h*2,none⟩)) ?_ (hr:=by go_simp);refine ag5 9 (pN (some ⟨O.cb i,h*2,none⟩)) ?_ (hr:=by go_simp);refine ag5 10 (pN (some ⟨O.cb i,h*2+1,none⟩)) ?_ (hr:=by go_simp);refine ag5 11 (iN qi o2) ?_ (hr:=by go_simp);refine ag5 12 (pN (some ⟨w.heap.size+1,1,none⟩)) ?_ (hr:=by go_simp);refine ag5 13 (iN qi x2) ?_ (hr:=by go_simp);refine ag5 14 (iN qi (min o2 x2)) ?_ (hr:=by go_simp);refine ag5 15 (.agg #[iN qi (max o1 x1),iN qi (min o2 x2)]) ?_ (hr:=by go_simp);refine ag5 16 (pN (some ⟨O.cb i,h*2,none⟩)) ?_ (hr:=by go_simp);simp only[Act.put,List.setIfInBounds_toArray];refine⟨by kernel_rfl,by kernel_rfl,wpOp_step rfl fun K hK=> ?_⟩;go_simp;refine hK _ _ ?_;clear hK;have m0:((W1.setCell ⟨O.cb i,h*2,none⟩ (iN qi (max o1 x1))).setCell ⟨O.cb i,h*2+1,none⟩ (iN qi (min o2 x2))).cell? ⟨O.cb i,h*2,none⟩=some (iN qi (max o1 x1)):=by
    rw[wO _ _ _ _ (by intro e;simp only[Addr.mk.injEq] at e;omega)];exact World.cell?_setCell_same _ _ _ d0
   have m1:((W1.setCell ⟨O.cb i,h*2,none⟩ (iN qi (max o1 x1))).setCell ⟨O.cb i,h*2+1,none⟩ (iN qi (min o2 x2))).cell? ⟨O.cb i,h*2+1,none⟩=some (iN qi (min o2 x2)):=by
    refine World.cell?_setCell_same _ _ _ (?_: _=some (iN qi o2));rw[wO _ _ _ _ (by intro e;simp only[Addr.mk.injEq] at e;omega)];exact d1
   have HH6:Hid (((W1.setCell ⟨O.cb i,h*2,none⟩ (iN qi (max o1 x1))).setCell ⟨O.cb i,h*2+1,none⟩ (iN qi (min o2 x2))).cell? ⟨b8,0,none⟩=some (iN qi B.hours)/\((W1.setCell ⟨O.cb i,h*2,none⟩ (iN qi (max o1 x1))).setCell ⟨O.cb i,h*2+1,none⟩ (iN qi (min o2 x2))).cell? ⟨b8,1,none⟩=some (sL va B.towns.length vtc)/\((W1.setCell ⟨O.cb i,h*2,none⟩ (iN qi (max o1 x1))).setCell ⟨O.cb i,h*2+1,none⟩ (iN qi (min o2 x2))).cell? ⟨b8,2,none⟩=some (sL vl B.links.length vlc)/\((W1.setCell ⟨O.cb i,h*2,none⟩ (iN qi (max o1 x1))).setCell ⟨O.cb i,h*2+1,none⟩ (iN qi (min o2 x2))).cell? ⟨b8,3,none⟩=some (sL (some ⟨O.pb,0,none⟩) B.pairs.length vpc)):=lH (by
    obtain⟨a0,a1,a2,a3⟩:=HH8.out;refine⟨?_, ?_, ?_, ?_⟩
    all_goals
     rw[wF _ _ _ _ (Ne.symm hn2),wF _ _ _ _ (Ne.symm hn2)];assumption)
   have hs6:=HS.out (max o1 x1) (min o2 x2);have hb6:=HBS.out (max o1 x1) (min o2 x2);generalize hW6:((W1.setCell ⟨O.cb i,h*2,none⟩ (iN qi (max o1 x1))).setCell ⟨O.cb i,h*2+1,none⟩ (iN qi (min o2 x2)))=W6 at *;have HS6:=lH hs6;have HB6:=lH hb6;have b1:=ak hb6;have r0:=(b1.1 (w.heap.size+2) 0 (by omega)).trans HR.out.c0;have r1:=(b1.1 (w.heap.size+2) 1 (by omega)).trans HR.out.c1;have r2:=(b1.1 (w.heap.size+2) 2 (by omega)).trans HR.out.c2;have r3:=(b1.1 (w.heap.size+2) 3 (by omega)).trans HR.out.c3;have g0:=(b1.2 (w.heap.size+2) 0 (by omega)).trans HR.out.f0;have g1:=(b1.2 (w.heap.size+2) 1 (by omega)).trans HR.out.f1;have g2:=(b1.2 (w.heap.size+2) 2 (by omega)).trans HR.out.f2;have g3:=(b1.2 (w.heap.size+2) 3 (by omega)).trans HR.out.f3;have n3:w.heap.size<=w.heap.size+2:=by omega
   have n4:w.heap.size+2<w2.heap.size:=by omega
   have n5:w.heap.size<=w2.heap.size:=by omega
   obtain⟨a0,a1,a2,a3⟩:=HH6.out;have Hm0:=lH d0;clear hs6 hb6 hW6 b1 d0 d1 e0 e1 y0 y1 HS HBS w1r w2r hpl hi' hi0 hh0 hhL hbb hoo;by_cases hgt:min o2 x2<max o1 x1
   ·have Hgt:Hid ((ag4 B i h x1 x2).2<(ag4 B i h x1 x2).1):=lH (by rw[HKn.out];exact hgt);clear a0 a1 a2 a3
    go_wp2_with fail
    go_region
    go_wp2;refine bodyPost_ret (v:= .tuple #[.agg #[iN qi 0,sL none 0 0,sL none 0 0,sL none 0 0],iN qi 10]) (by simp[results,Tryz.results28,go_sem,r0,r1,r2,r3]) rfl ⟨.inr (.inl ⟨Hbo.out,Hgt.out,rfl⟩), ?_⟩;exact(((((HBW.out.trans (HB6.out.mono HBW.out.size)).drew.drew.setCell (p:=⟨w.heap.size+2,0,none⟩) n3 _).setCell (p:=⟨w.heap.size+2,1,none⟩) n3 _).setCell (p:=⟨w.heap.size+2,2,none⟩) n3 _).setCell (p:=⟨w.heap.size+2,3,none⟩) n3 _)
   ·have Hgt:Hid ((ag4 B i h x1 x2).1<=(ag4 B i h x1 x2).2):=lH (by rw[HKn.out];exact Int.not_lt.1 hgt)
    go_wp2_with fail
    go_region
    go_wp2;have hlow: ∀u m n B2,bI u m ⟨va,vl,some ⟨O.pb,0,none⟩,vtc,vlc,vpc⟩ B2 O->n<=m->bI u n ⟨va,vl,some ⟨O.pb,0,none⟩,vtc,vlc,vpc⟩ B2 O:=fun u m n B2 h hn=>⟨h.ta,h.la,h.pa,h.pc,h.rp,h.tc,h.towns,h.links,h.steps,h.pairs,h.calls,fun i q hq=>⟨⟨(h.free i q hq).1.1,Nat.le_trans hn (h.free i q hq).1.2⟩,(h.free i q hq).2⟩,h.dis,⟨Nat.le_trans hn h.lo.1,Nat.le_trans hn h.lo.2.1,Nat.le_trans hn h.lo.2.2.1,fun i L hL=>Nat.le_trans hn (h.lo.2.2.2 i L hL)⟩⟩;refine bodyPost_ret (v:= .tuple #[.agg #[iN qi B.hours,sL va B.towns.length vtc,sL vl B.links.length vlc,sL (some ⟨O.pb,0,none⟩) B.pairs.length vpc],iN qi 0]) (by simp[results,Tryz.results28,go_sem,r0,r1,r2,r3]) rfl ⟨.inr (.inr ⟨Hbo.out,Hgt.out,⟨va,vl,some ⟨O.pb,0,none⟩,vtc,vlc,vpc⟩,O,rfl, ?_⟩), ?_⟩
    ·rw[HKn.out];exact hlow _ _ _ _ (((((HS6.out.below (bR _ _).drew.drew).far _ n4).far _ n4).far _ n4).far _ n4) n5
    ·exact(((((HBW.out.trans (HB6.out.mono HBW.out.size)).drew.drew.setCell (p:=⟨w.heap.size+2,0,none⟩) n3 _).setCell (p:=⟨w.heap.size+2,1,none⟩) n3 _).setCell (p:=⟨w.heap.size+2,2,none⟩) n3 _).setCell (p:=⟨w.heap.size+2,3,none⟩) n3 _)
  ·have hbo':dw (x1,x2)=false:=by simpa using hbo
   have b1:=ak HB2.out;have r0:=(b1.1 (w.heap.size+2) 0 (by omega)).trans HR.out.c0;have r1:=(b1.1 (w.heap.size+2) 1 (by omega)).trans HR.out.c1;have r2:=(b1.1 (w.heap.size+2) 2 (by omega)).trans HR.out.c2;have r3:=(b1.1 (w.heap.size+2) 3 (by omega)).trans HR.out.c3;have g0:=(b1.2 (w.heap.size+2) 0 (by omega)).trans HR.out.f0;have g1:=(b1.2 (w.heap.size+2) 1 (by omega)).trans HR.out.f1;have g2:=(b1.2 (w.heap.size+2) 2 (by omega)).trans HR.out.f2;have g3:=(b1.2 (w.heap.size+2) 3 (by omega)).trans HR.out.f3;have Hbo:=lH hbo';rw[hbo'];clear b1 hbo hbo';go_wp2;have n3:w.heap.size<=w.heap.size+2:=by omega
   refine bodyPost_ret (v:= .tuple #[.agg #[iN qi 0,sL none 0 0,sL none 0 0,sL none 0 0],iN qi 1]) (by simp[results,Tryz.results28,go_sem,r0,r1,r2,r3]) rfl ⟨.inl ⟨Hbo.out,rfl⟩, ?_⟩;exact((((HBW.out.trans (HB2.out.mono HBW.out.size)).setCell (p:=⟨w.heap.size+2,0,none⟩) n3 _).setCell (p:=⟨w.heap.size+2,1,none⟩) n3 _).setCell (p:=⟨w.heap.size+2,2,none⟩) n3 _).setCell (p:=⟨w.heap.size+2,3,none⟩) n3 _
 |_=>exact hq.elim
section
variable {P:Program} {ops:Array Oper} {Q:Exit->Act->wD->Prop} {z:Nat} {S:wD->Prop}
theorem apv (i j d e:Nat) (ob:Obj) (v:Value) {oi oj:Oper} {n:Nat} {listed:Array Bool} {a:Act} {w:wD}
  (h: ∀b u,w.heap.size<=b->u.heap[b]? =some ob->bX w.heap.size w u->LaS P ops Q z S n ((listed.setIfInBounds i true).setIfInBounds j true) ((a.put (some d) v).put (some e) (pN (some ⟨b,0,none⟩))) u)
  (hS: ∀u,bX w.heap.size w u->S u) (hoi:ops[i]? =some oi:=by rfl) (hoj:ops[j]? =some oj:=by rfl)
  (hri:ahO P oi a w fun x u=>x=v/\bX w.heap.size w u) (hri2: ∀b u,ahO P oi (a.put (some e) (pN (some ⟨b,0,none⟩))) u fun x u'=>x=v/\bX u.heap.size u u')
  (hrj: ∀(a:Act) (w:wD),(execOp a.eval oj).run P w= .ok (.value (pN (some ⟨w.heap.size,0,none⟩))) (w.alloc ob))
  (hdi:oi.dst=some d:=by rfl) (hdj:oj.dst=some e:=by rfl) (hne:d≠e:=by decide) (hij:i≠j:=by decide) (hgi:oi.guard=none:=by rfl) (hgj:oj.guard=none:=by rfl)
  (hc:Region.ready .any ops listed= [i,j]:=by kernel_rfl) (hci:Region.ready .any ops (listed.setIfInBounds i true)= [j]:=by kernel_rfl) (hcj:Region.ready .any ops (listed.setIfInBounds j true)= [i]:=by kernel_rfl):LaS P ops Q z S (n+2) listed a w:=by
 have hwi: ∀y,Region.wanted oi y=true:=fun y=>by unfold Region.wanted;rw[hgi]
 have hwj: ∀y,Region.wanted oj y=true:=fun y=>by unfold Region.wanted;rw[hgj]
 have h1:ahO P oi a w fun x w'=>(i≠z/\i≠z+1->S w')/\LaS P ops Q z S (n+1) (listed.setIfInBounds i true) (a.put oi.dst x) w':=hri.mono fun x u ⟨e1,hb⟩=>⟨fun _=>hS u hb,ahQ j hoj (hwj _) hci (ah0 (hrj _ _) ⟨fun _=>hS _ (hb.alloc hb.size _),by
  subst e1;rw[hdi,hdj];exact h _ _ hb.size (GK _ _) (hb.alloc hb.size _)⟩)⟩
 have h3:ahO P oi (a.put oj.dst (pN (some ⟨w.heap.size,0,none⟩))) (w.alloc ob) fun x u'=>x=v/\bX (w.alloc ob).heap.size (w.alloc ob) u':=by rw[hdj];exact hri2 _ _
 have h2:ahO P oj a w fun x w'=>(j≠z/\j≠z+1->S w')/\LaS P ops Q z S (n+1) (listed.setIfInBounds j true) (a.put oj.dst x) w':=ah0 (hrj a w) ⟨fun _=>hS _ ((bR _ _).alloc (nR _) _),ahQ i hoi (hwi _) hcj (h3.mono fun x u ⟨e1,hb⟩=>⟨fun _=>hS u (((bR _ _).alloc (nR _) _).trans (hb.mono (by simp))),by
  subst e1;rw[hdi,hdj,Array.setIfInBounds_comm _ _ (Ne.symm hij),Act.put_comm (x:=some e) (y:=some d) a _ _ (fun k hk hk2=>hne (by cases hk;cases hk2;rfl))];refine h _ _ (nR _) ?_ (((bR _ _).alloc (nR _) _).trans (hb.mono (by simp)));rw[hb.block _ (by simp)];exact GK _ _⟩)⟩
 exact aie i j h1 h2 hoi hoj (hwi _) (hwj _) hc
end
theorem r75 (a b c d:Int) (w:wD):Calls tP 75 #[.agg #[iN qi a,iN qi b],.agg #[iN qi c,iN qi d]] w fun e w'=>e= rT (.agg #[iN qi (max a c),iN qi (min b d)])/\bX w.heap.size w w':=by
 have hw:bX w.heap.size w (((w.alloc (cL #[iN qi a,iN qi b] 43)).alloc (cL #[iN qi c,iN qi d] 43)).alloc (cL #[iN qi (max a c),iN qi (min b d)] 43)):=(((bR _ _).alloc (nR _) _).alloc (by simp) _).alloc (by simp;omega) _;by_cases h1:a<c<;>by_cases h2:d<b
 all_goals
  first
   |rw[Int.max_eq_right (by omega)] at *
   |rw[Int.max_eq_left (by omega)] at *
  first
   |rw[Int.min_eq_right (by omega)] at *
   |rw[Int.min_eq_left (by omega)] at *
  go_enter Tryz.func75,Tryz.ntmps75;go_wp2
  first
   |exact bodyPost_ret (v:= .agg #[iN qi a,iN qi b]) (by simp[results,Tryz.results75,go_sem]) rfl ⟨rfl,hw⟩
   |exact bodyPost_ret (v:= .agg #[iN qi c,iN qi b]) (by simp[results,Tryz.results75,go_sem]) rfl ⟨rfl,hw⟩
   |exact bodyPost_ret (v:= .agg #[iN qi a,iN qi d]) (by simp[results,Tryz.results75,go_sem]) rfl ⟨rfl,hw⟩
   |exact bodyPost_ret (v:= .agg #[iN qi c,iN qi d]) (by simp[results,Tryz.results75,go_sem]) rfl ⟨rfl,hw⟩
theorem apw {B:Bk} {b:Bool} (h:fF B b=0):B.alarm=0/\b=true:=by
 unfold fF at h;by_cases hA:B.alarm=0
 ·rw[if_pos hA] at h
  cases b with
  |true=>exact⟨hA,rfl⟩
  |false=>cases h
 ·rw[if_neg hA] at h;exact absurd h hA
def aoJ (B:Bk) (k n x1 x2:Int):Int:=if an2 B k n=0 then (if dw (x1,x2)=true then (if (ag4 B k.toNat n.toNat x1 x2).2<(ag4 B k.toNat n.toNat x1 x2).1 then 10 else 0) else 1) else an2 B k n
def aoN (B:Bk) (k n x1 x2:Int):Bk:=if aoJ B k n x1 x2=0 then fD B k.toNat n.toNat (ag4 B k.toNat n.toNat x1 x2) else noB
theorem aoV {B:Bk} {k n x1 x2 A:Int} (h:aoJ B k n x1 x2=A) (hA:A≠0):aoN B k n x1 x2=noB:=by unfold aoN;rw[h,if_neg hA]
theorem apx {B:Bk} {k n:Int} (h: ¬fF B (btw k 0 ((B.pairs.length:Int)-1))=0):an2 B k n=fF B (btw k 0 ((B.pairs.length:Int)-1)):=by
 unfold an2;by_cases hA:B.alarm=0
 ·cases hb:btw k 0 ((B.pairs.length:Int)-1) with
  |false=>rfl
  |true=>rw[hb] at h;unfold fF at h;rw[if_pos hA] at h;exact absurd rfl h
 ·unfold fF;rw[if_neg hA,if_neg hA,if_neg hA]
  split<;>rfl
theorem r29 (V:BkV) (B:Bk) (k n x1 x2:Int) (w:wD) (hs:aB w V B) (hz: ∀t∈B.towns,t.size<=1000000):
  Calls tP 29 #[V.val B,iN qi k,iN qi n,.agg #[iN qi x1,iN qi x2]] w (BkQ (aoN B k n x1 x2) (aoJ B k n x1 x2) w):=by
 obtain⟨ta,la,pa,tc,lc,pc⟩:=V;have hb0:bX w.heap.size w (((w.alloc (cL #[iN qi B.hours,sL ta B.towns.length tc,sL la B.links.length lc,sL pa B.pairs.length pc] 26)).alloc (cL #[iN qi x1,iN qi x2] 43)).alloc (cL #[iN qi 0,sL none 0 0,sL none 0 0,sL none 0 0] 26)):=(((bR _ _).alloc (nR _) _).alloc (by simp) _).alloc (by simp;omega) _;have HCk:=lH (r45 ⟨ta,la,pa,tc,lc,pc⟩ B k _ (hs.below hb0 (nR _)) hz);have HT:Hid (dW (((w.alloc (cL #[iN qi B.hours,sL ta B.towns.length tc,sL la B.links.length lc,sL pa B.pairs.length pc] 26)).alloc (cL #[iN qi x1,iN qi x2] 43)).alloc (cL #[iN qi 0,sL none 0 0,sL none 0 0,sL none 0 0] 26)) w.heap.size (iN qi B.hours) (sL ta B.towns.length tc) (sL la B.links.length lc) (sL pa B.pairs.length pc)/\((((w.alloc (cL #[iN qi B.hours,sL ta B.towns.length tc,sL la B.links.length lc,sL pa B.pairs.length pc] 26)).alloc (cL #[iN qi x1,iN qi x2] 43)).alloc (cL #[iN qi 0,sL none 0 0,sL none 0 0,sL none 0 0] 26)).cell? ⟨w.heap.size+1,0,none⟩=some (iN qi x1)/\(((w.alloc (cL #[iN qi B.hours,sL ta B.towns.length tc,sL la B.links.length lc,sL pa B.pairs.length pc] 26)).alloc (cL #[iN qi x1,iN qi x2] 43)).alloc (cL #[iN qi 0,sL none 0 0,sL none 0 0,sL none 0 0] 26)).cell? ⟨w.heap.size+1,1,none⟩=some (iN qi x2))/\dW (((w.alloc (cL #[iN qi B.hours,sL ta B.towns.length tc,sL la B.links.length lc,sL pa B.pairs.length pc] 26)).alloc (cL #[iN qi x1,iN qi x2] 43)).alloc (cL #[iN qi 0,sL none 0 0,sL none 0 0,sL none 0 0] 26)) (w.heap.size+1+1) (iN qi 0) (sL none 0 0) (sL none 0 0) (sL none 0 0)):=lH ⟨aij (by go_simp) (by go_simp) (by go_simp) (by go_simp) (by go_simp) (by go_simp) (by go_simp) (by go_simp),⟨by go_simp,by go_simp⟩,aij (by go_simp) (by go_simp) (by go_simp) (by go_simp) (by go_simp) (by go_simp) (by go_simp) (by go_simp)⟩;have HB0:=lH hb0;have Hs:=lH hs;have hnp:=hs.np;obtain⟨Q,hQ⟩: ∃Q,Q=BkQ (aoN B k n x1 x2) (aoJ B k n x1 x2) w:=⟨_,rfl⟩;rw[<-hQ];have HE:Hid (∀A,aoJ B k n x1 x2=A/\A≠0-> ∀w',bX w.heap.size w w'->Q (rT (.tuple #[.agg #[iN qi 0,sL none 0 0,sL none 0 0,sL none 0 0],iN qi A])) w'):=lH fun A h w' hb=>by
  rw[hQ,aoV h.1 h.2,h.1];exact aoO hb
 have HEo:Hid (aoJ B k n x1 x2=0-> ∀(V':BkV) w',aB w' V' (fD B k.toNat n.toNat (ag4 B k.toNat n.toNat x1 x2))->bX w.heap.size w w'->Q (rT (.tuple #[V'.val (fD B k.toNat n.toNat (ag4 B k.toNat n.toNat x1 x2)),iN qi 0])) w'):=lH fun e1 V' w' hi hb=>by
  rw[hQ];unfold aoN;rw[if_pos e1,e1];exact⟨V',rfl,hi,hb⟩
 clear hb0 hz hs hQ;go_enter Tryz.func29,Tryz.ntmps29
 go_wp2_with fail
 refine HCk.out.mono ?_;rintro e W ⟨rfl,hb1⟩;have HR:=lH (HT.out.2.2.below hb1 (by simp));have HBW:=lH (HB0.out.trans (hb1.mono (by simp;omega)));have HP:=lH (HT.out.1.below hb1 (by simp;omega));have HQ:Hid (W.cell? ⟨w.heap.size+1,0,none⟩=some (iN qi x1)/\W.cell? ⟨w.heap.size+1,1,none⟩=some (iN qi x2)):=lH ⟨aoG hb1 HT.out.2.1.1 (by simp),aoG hb1 HT.out.2.1.2 (by simp)⟩;clear hb1 HCk HB0 HT;by_cases hA1:fF B (btw k 0 ((B.pairs.length:Int)-1))=0
 ·obtain⟨hA,hk⟩:=apw hA1;have hG:=gY hA;have HG:=lH hG;have hh:=hG.fine.hours;have hwh:IntKind.wrap qi (B.hours-1)=B.hours-1:=IntWalk.i64_in _ (by omega);have hth:bP B n=btw n 0 (B.hours-1):=by unfold bP;rw[show RowKit.wrap64 (B.hours-1)=B.hours-1 from IntWalk.wrap64_in _ (by omega)]
  have hal:an2 B k n=if btw n 0 (B.hours-1)=true then 0 else 6:=by unfold an2;rw[if_pos hk,hth];unfold fF;rw[if_pos hA]
  rw[hA1];obtain⟨q,hq⟩: ∃q,q=B.hours-1:=⟨_,rfl⟩;have hw2:=hwh.trans hq.symm;rw[<-hq] at hal;have Hk:=lH hk;have Hq:=lH hq;have Hhh:=lH hh;have Hal:=lH hal;clear hA hk hG hh hth hA1 hal hwh hq;obtain⟨_,p0,p1,p2,p3,_,_,_,_⟩:=HP.out;obtain⟨p4,p5⟩:=HQ.out
  go_wp2_with fail
  refine(gU _ _ _ _).mono ?_;rintro e w2 ⟨rfl,rfl⟩
  cases hbt:btw n 0 q with
  |false=>
   have e6:Hid (aoJ B k n x1 x2=6):=lH (by unfold aoJ;rw[Hal.out,hbt];rfl);clear hbt p0 p1 p2 p3 p4 p5;obtain⟨_,e0,e1,e2,e3,g0,g1,g2,g3⟩:=HR.out;go_wp2;refine bodyPost_ret (v:= .tuple #[.agg #[iN qi 0,sL none 0 0,sL none 0 0,sL none 0 0],iN qi 6]) (by simp[results,Tryz.results29,go_sem,e0,e1,e2,e3]) rfl (HE.out _ ⟨e6.out,by decide⟩ _ ?_);exact aik HBW.out (by omega) rfl _ _ _ _
  |true=>
   have hal:an2 B k n=0:=by rw[Hal.out,hbt];rfl
   obtain⟨i,rfl⟩: ∃i:Nat,k=(i:Int):=⟨k.toNat,by have:=Hk.out;simp[btw] at this;omega⟩;obtain⟨h,rfl⟩: ∃h:Nat,n=(h:Int):=⟨n.toNat,by simp[btw] at hbt;omega⟩;have hip:i<B.pairs.length:=by have:=Hk.out;simp[btw] at this;omega
   have hhl:(h:Int)<B.hours:=by have:=Hq.out;simp[btw] at hbt;omega
   have hqa:aoJ B (i:Int) (h:Int) x1 x2=if dw (x1,x2)=true then (if (ag4 B i h x1 x2).2<(ag4 B i h x1 x2).1 then 10 else 0) else 1:=by unfold aoJ;rw[hal,if_pos rfl];rfl
   have hx:B.pairs[i]? =some B.pairs[i]:=lG hip;obtain⟨b,o,sa,sc,hpa,_,_,c2,hsl,_⟩:=Hs.out.pairs i _ hx;simp only at hpa;subst hpa;have hc:=(HG.out.fine.calls i _ hx).1;have hlt:h<B.pairs[i].calls.length:=by omega
   have hy:B.pairs[i].calls[h]? =some B.pairs[i].calls[h]:=lG hlt;obtain⟨sb,so,rfl,g0,g1⟩:=hsl h _ hy;have hba:iD B i h=B.pairs[i].calls[h]:=by unfold iD;rw[hx];simp only[Option.bind_some,hy];rfl
   have hkn:ag4 B i h x1 x2=(max (B.pairs[i].calls[h]).1 x1,min (B.pairs[i].calls[h]).2 x2):=by unfold ag4;rw[hba]
   rw[hkn] at hqa;have HEk:Hid (aoJ B (i:Int) (h:Int) x1 x2=0-> ∀(V':BkV) w',aB w' V' (fD B i h (max (B.pairs[i].calls[h]).1 x1,min (B.pairs[i].calls[h]).2 x2))->bX w.heap.size w w'->Q (rT (.tuple #[V'.val (fD B i h (max (B.pairs[i].calls[h]).1 x1,min (B.pairs[i].calls[h]).2 x2)),iN qi 0])) w'):=lH (by rw[<-hkn];exact HEo.out);have HC2:=lH c2;have HG2:=lH (And.intro g0 g1);have HL:Hid (h<B.pairs[i].calls.length/\B.pairs[i].calls.length<=1000000):=lH ⟨hlt,by have:=Hhh.out;omega⟩;generalize B.pairs[i].calls[h]=y at *;generalize B.pairs[i].calls.length=L at *;obtain⟨y1,y2⟩:=y;simp only at hqa g0 g1 HEk;have Hqa:=lH hqa;have hip2:(i:Int)<(B.pairs.length:Int):=by omega
   have hhl2:(h:Int)<(L:Int):=by have:=HL.out.1;omega
   clear hbt c2 g0 g1 hsl hx hc hlt hy hba hkn hqa hal HEo
   go_wp2_with fail
   refine(c99 _ _ _).mono ?_;rintro e W2 ⟨rfl,hb2⟩;have HR2:=lH (HR.out.below hb2 HR.out.z);have HBW2:=lH (HBW.out.trans (hb2.mono HBW.out.size));have HP2:=lH (HP.out.below hb2 HP.out.z);have HQ2:Hid (W2.cell? ⟨w.heap.size+1,0,none⟩=some (iN qi x1)/\W2.cell? ⟨w.heap.size+1,1,none⟩=some (iN qi x2)):=lH ⟨aoG hb2 HQ.out.1,aoG hb2 HQ.out.2⟩;clear hb2 p0 p1 p2 p3 p4 p5
   cases hbx:dw (x1,x2) with
   |false=>
    have e6:Hid (aoJ B (i:Int) (h:Int) x1 x2=1):=lH (by rw[Hqa.out,hbx];rfl);clear hbx HEk;obtain⟨_,e0,e1,e2,e3,g0,g1,g2,g3⟩:=HR2.out;go_wp2;refine bodyPost_ret (v:= .tuple #[.agg #[iN qi 0,sL none 0 0,sL none 0 0,sL none 0 0],iN qi 1]) (by simp[results,Tryz.results29,go_sem,e0,e1,e2,e3]) rfl (HE.out _ ⟨e6.out,by decide⟩ _ ?_);exact aik HBW2.out (by omega) rfl _ _ _ _
   |true=>
    have hqa2:=Hqa.out;rw[hbx,if_pos rfl] at hqa2;have Hqb:=lH hqa2;clear hbx hqa2;have hW:bX W2.heap.size W2 W2.drew:=(bR _ _).drew;have HC:Hid (∀u,bX W2.heap.size W2 u->(u.cell? ⟨w.heap.size,3,none⟩=some (sL (some ⟨b,o,none⟩) B.pairs.length pc)/\u.cell? ⟨b,o+i*3+2,none⟩=some (sL (some ⟨sb,so,none⟩) L sc))/\(u.cell? ⟨sb,so+h*2,none⟩=some (iN qi y1)/\u.cell? ⟨sb,so+h*2+1,none⟩=some (iN qi y2))/\u.cell? ⟨w.heap.size+1,0,none⟩=some (iN qi x1)/\u.cell? ⟨w.heap.size+1,1,none⟩=some (iN qi x2)):=lH fun u hu=>by
     have hwu:=HBW2.out.trans (hu.mono HBW2.out.size);exact⟨⟨aoG hu HP2.out.c3,aoG hwu HC2.out⟩,⟨aoG hwu HG2.out.1,aoG hwu HG2.out.2⟩,aoG hu HQ2.out.1,aoG hu HQ2.out.2⟩
    go_wp2_with fail
    refine aif 13 13 (fun u=>bX W2.heap.size W2 u) (by kernel_rfl) ?_;refine ahN 0 (pN (some ⟨w.heap.size,3,none⟩)) hW ?_ (hr:=fun u hu=>by go_simp);refine ahN 1 (sL (some ⟨b,o,none⟩) B.pairs.length pc) hW ?_ (hr:=fun u hu=>by obtain⟨⟨p2,p3⟩,_,_⟩:=HC.out _ hu;go_simp);refine ahN 2 (iN qi (i:Int)) hW ?_ (hr:=fun u hu=>by go_simp);refine ahN 3 (pN (some ⟨b,o+i*3,none⟩)) hW ?_ (hr:=fun u hu=>by go_simp);refine ahN 4 (pN (some ⟨b,o+i*3+2,none⟩)) hW ?_ (hr:=fun u hu=>by go_simp);refine ahN 5 (sL (some ⟨sb,so,none⟩) L sc) hW ?_ (hr:=fun u hu=>by obtain⟨⟨p2,p3⟩,_,_⟩:=HC.out _ hu;go_simp);refine ahN 6 (iN qi (h:Int)) hW ?_ (hr:=fun u hu=>by go_simp);refine ahN 7 (pN (some ⟨sb,so+h*2,none⟩)) hW ?_ (hr:=fun u hu=>by go_simp);refine ahN 8 (.agg #[iN qi y1,iN qi y2]) hW ?_ (hr:=fun u hu=>by obtain⟨_,⟨p2,p3⟩,_⟩:=HC.out _ hu;go_simp);refine ahN 9 (.agg #[iN qi x1,iN qi x2]) hW ?_ (hr:=fun u hu=>by obtain⟨_,_,p2,p3⟩:=HC.out _ hu;go_simp);refine apv 10 11 40 11 (cL #[iN qi 0,iN qi 0] 43) (.agg #[iN qi (max y1 x1),iN qi (min y2 x2)]) (fun b9 u hb9 hbl hu=> ?_) (fun u hu=>hW.trans (hu.mono hW.size)) (hri:=ahW (f:=75) (args:= #[.agg #[iN qi y1,iN qi y2],.agg #[iN qi x1,iN qi x2]]) (w':=W2.drew) (by go_simp) ((r75 _ _ _ _ _).mono fun e u ⟨e1,hb⟩=>⟨_,e1,rfl,hb⟩)) (hri2:=fun b9 u=>ahW (f:=75) (args:= #[.agg #[iN qi y1,iN qi y2],.agg #[iN qi x1,iN qi x2]]) (w':=u) (by go_simp) ((r75 _ _ _ _ _).mono fun e u ⟨e1,hb⟩=>⟨_,e1,rfl,hb⟩)) (hrj:=fun a u=>by go_simp);have hc9:u.cell? ⟨b9,0,none⟩=some (iN qi 0)/\u.cell? ⟨b9,1,none⟩=some (iN qi 0)/\u.frozen? ⟨b9,0,none⟩=false/\u.frozen? ⟨b9,1,none⟩=false:=by
     refine⟨?_, ?_, ?_, ?_⟩<;>simp[World.cell?,World.frozen?,hbl]
    obtain⟨z0,z1,f0,f1⟩:=hc9;have hWu:bX W2.heap.size W2 u:=hW.trans (hu.mono hW.size);have hS:bX W2.heap.size W2 ((u.setCell ⟨b9,0,none⟩ (iN qi (max y1 x1))).setCell ⟨b9,1,none⟩ (iN qi (min y2 x2))):=(hWu.setCell (p:=⟨b9,0,none⟩) hb9 _).setCell (p:=⟨b9,1,none⟩) hb9 _;refine ahQ 12 (h:=ah1 (w':=((u.setCell ⟨b9,0,none⟩ (iN qi (max y1 x1))).setCell ⟨b9,1,none⟩ (iN qi (min y2 x2)))) (by go_simp) ⟨fun _=>hS, ?_⟩);have n0:((u.setCell ⟨b9,0,none⟩ (iN qi (max y1 x1))).setCell ⟨b9,1,none⟩ (iN qi (min y2 x2))).cell? ⟨b9,0,none⟩=some (iN qi (max y1 x1)):=by go_simp
    have n1:((u.setCell ⟨b9,0,none⟩ (iN qi (max y1 x1))).setCell ⟨b9,1,none⟩ (iN qi (min y2 x2))).cell? ⟨b9,1,none⟩=some (iN qi (min y2 x2)):=by go_simp
    generalize ((u.setCell ⟨b9,0,none⟩ (iN qi (max y1 x1))).setCell ⟨b9,1,none⟩ (iN qi (min y2 x2)))=W3 at *;refine ahZ ?_;go_simp;have HR3:=lH (HR2.out.below hS HR2.out.z);have HB3:=lH (HBW2.out.trans (hS.mono HBW2.out.size));have HP3:=lH (HP2.out.below hS HP2.out.z);have HC43:=lH (c43 ⟨ta,la,some ⟨b,o,none⟩,tc,lc,pc⟩ B i h (max y1 x1) (min y2 x2) W3 (Hs.out.below HB3.out (nR _)) HG.out hip hhl);generalize max y1 x1=m1 at *;generalize min y2 x2=m2 at *;clear hS hWu hW z0 z1 f0 f1 hbl hu hb9 HC;by_cases hm:m2<m1
    ·have e6:Hid (aoJ B (i:Int) (h:Int) x1 x2=10):=lH (by rw[Hqb.out,if_pos hm]);clear HEk HC43;obtain⟨_,e0,e1,e2,e3,g0,g1,g2,g3⟩:=HR3.out;go_wp2;refine bodyPost_ret (v:= .tuple #[.agg #[iN qi 0,sL none 0 0,sL none 0 0,sL none 0 0],iN qi 10]) (by simp[results,Tryz.results29,go_sem,e0,e1,e2,e3]) rfl (HE.out _ ⟨e6.out,by decide⟩ _ ?_);exact aik HB3.out (by omega) rfl _ _ _ _
    ·have HE2:=lH (HEk.out (by rw[Hqb.out,if_neg hm]));clear HE HEk;obtain⟨_,p0,p1,p2,p3,_,_,_,_⟩:=HP3.out
     go_wp2_with fail
     refine HC43.out.mono ?_;rintro e W4 ⟨gg,gc,rfl,hi4,_,hb4⟩;have HR4:=lH (HR3.out.below hb4 HR3.out.z);have HB4:=lH (HB3.out.trans (hb4.mono HB3.out.size));have HI4:=lH hi4;have hlen:=ag9 B i h (m1,m2);have hval:(⟨ta,la,some ⟨gg,0,none⟩,tc,lc,gc⟩:BkV).val (fD B i h (m1,m2))= .agg #[iN qi B.hours,sL ta B.towns.length tc,sL la B.links.length lc,sL (some ⟨gg,0,none⟩) B.pairs.length gc]:=by
      simp only[BkV.val,hlen];rfl
     have HV:=lH hval;clear hi4 hb4 HC43 p0 p1 p2 p3 hval hlen;obtain⟨_,e0,e1,e2,e3,g0,g1,g2,g3⟩:=HR4.out;go_wp2;refine bodyPost_ret (v:= .tuple #[.agg #[iN qi B.hours,sL ta B.towns.length tc,sL la B.links.length lc,sL (some ⟨gg,0,none⟩) B.pairs.length gc],iN qi 0]) (by simp[results,Tryz.results29,go_sem,e0,e1,e2,e3]) rfl ?_;rw[<-HV.out];exact HE2.out _ _ (HI4.out.put4 HR4.out) (aik HB4.out (by omega) rfl _ _ _ _)
 ·have e6:Hid (aoJ B k n x1 x2=fF B (btw k 0 ((B.pairs.length:Int)-1))):=lH (by unfold aoJ;rw[apx (n:=n) hA1,if_neg hA1]);have hA3:((fF B (btw k 0 ((B.pairs.length:Int)-1))) != 0)=true:=by simpa using hA1
  generalize fF B (btw k 0 ((B.pairs.length:Int)-1))=A at *;have HA1:=lH hA1;clear hA1;obtain⟨_,e0,e1,e2,e3,g0,g1,g2,g3⟩:=HR.out;go_wp2;refine bodyPost_ret (v:= .tuple #[.agg #[iN qi 0,sL none 0 0,sL none 0 0,sL none 0 0],iN qi A]) (by simp[results,Tryz.results29,go_sem,e0,e1,e2,e3]) rfl (HE.out _ ⟨e6.out,HA1.out⟩ _ ?_);exact aik HBW.out (by omega) rfl _ _ _ _
theorem apy (B:Bk) (T:Nat->Int):allFit B T=jk B T:=by
 rw[Bool.eq_iff_iff,agH];unfold allFit;simp only[decide_eq_true_eq]
theorem apz (T:Nat->Int) (p:Int) (B:Bk): ∀f k,tY T p f k (aoH B p)=tY T p f k (bQ B p)
 | 0,_=>rfl
 |f+1,k=>by
  by_cases h:(bQ B p).alarm=0
  ·rw[ao3 h]
  ·unfold tY;rw[if_neg (fun c=>h (by rw[<-ao1];exact c.1)),if_neg (fun c=>h c.1)]
def aoM (B:Bk) (xs:List Int) (p:Int):Value:=if aH B xs true=0 then (if btw p 0 100=true then aaQ (tY (trk xs) p 7 0 B) else .tuple #[iN qi 0,.bool false,iN qi 1]) else .tuple #[iN qi 0,.bool false,iN qi (aH B xs true)]
theorem apb (V:BkV) (B:Bk) (xs:List Int) (xa:Option Addr) (xc:Nat) (p:Int) (w:wD) (hs:aB w V B) (hz: ∀t∈B.towns,t.size<=1000000) (hx:SlI w xa xs) (hxl:xs.length<=1000000) (A:Int) (hA: ¬aH B xs true=0/\A=aH B xs true\/aH B xs true=0/\btw p 0 100=false/\A=1):
  Calls tP 27 #[V.val B,sL xa xs.length xc,iN qi p] w fun e w'=>e= rT (.tuple #[iN qi 0,.bool false,iN qi A])/\bX w.heap.size w w':=by
 obtain⟨ta,la,pa,tc,lc,pc⟩:=V;have hb0:bX w.heap.size w (w.alloc (cL #[iN qi B.hours,sL ta B.towns.length tc,sL la B.links.length lc,sL pa B.pairs.length pc] 26)):=(bR _ _).alloc (nR _) _;have HC:=lH (c58 ⟨ta,la,pa,tc,lc,pc⟩ B xs xa xc _ (hs.below hb0 (nR _)) hz (hx.below hb0 (nR _)) hxl);have HB0:=lH hb0;have HA:=lH hA;clear hb0 hs hz hx hA;generalize aH B xs true=al at *;go_enter Tryz.func27,Tryz.ntmps27
 go_wp2_with fail
 refine HC.out.mono ?_;rintro e W ⟨rfl,hb1⟩;have HBW:=lH (HB0.out.trans (hb1.mono (by simp)));clear hb1 HC HB0
 rcases HA.out with ⟨h1,rfl⟩ |⟨rfl,h2,rfl⟩
 ·have hA3:(A != 0)=true:=by simpa using h1
  clear h1 HA;go_wp2;refine bodyPost_ret (v:= .tuple #[iN qi 0,.bool false,iN qi A]) (by simp[results,Tryz.results27,go_sem]) rfl ⟨rfl,HBW.out⟩
 ·have Hbt:=lH h2;clear h2 HA
  go_wp2_with fail
  refine(gU _ _ _ _).mono ?_;rintro e w2 ⟨rfl,rfl⟩;rw[Hbt.out];go_wp2;refine bodyPost_ret (v:= .tuple #[iN qi 0,.bool false,iN qi 1]) (by simp[results,Tryz.results27,go_sem]) rfl ⟨rfl,HBW.out⟩
theorem apA (V:BkV) (B:Bk) (xs:List Int) (xa:Option Addr) (xc:Nat) (p:Int) (w:wD) (hs:aB w V B) (hz: ∀t∈B.towns,t.size<=1000000) (hx:SlI w xa xs) (hxl:xs.length<=1000000) (hR:aH B xs true=0) (hbt:btw p 0 100=true):
  Calls tP 27 #[V.val B,sL xa xs.length xc,iN qi p] w fun e w'=>e= rT (aoM B xs p)/\bX w.heap.size w w':=by
 obtain⟨ta,la,pa,tc,lc,pc⟩:=V;have hb0:bX w.heap.size w (w.alloc (cL #[iN qi B.hours,sL ta B.towns.length tc,sL la B.links.length lc,sL pa B.pairs.length pc] 26)):=(bR _ _).alloc (nR _) _;have HC:=lH (c58 ⟨ta,la,pa,tc,lc,pc⟩ B xs xa xc _ (hs.below hb0 (nR _)) hz (hx.below hb0 (nR _)) hxl);have HT:=lH (ahT w 26 (iN qi B.hours) (sL ta B.towns.length tc) (sL la B.links.length lc) (sL pa B.pairs.length pc));obtain⟨hA,hl,hbad⟩:=nN hR;have HTk:=lH (lZ hbad);rw[hR] at HC;have HB0:=lH hb0;have e1:aoM B xs p=aaQ (tY (trk xs) p 7 0 B):=by unfold aoM;rw[if_pos hR,if_pos hbt]
 rw[e1];have Hbt:=lH hbt;have hp:0<=p/\p<=100:=by simpa[btw] using hbt
 have Hs:=lH hs;have Hz:=lH hz;have Hx:=lH hx;have Hl:=lH hl;generalize hyo:tY (trk xs) p 7 0 B=yo;have HY:=lH hyo;clear hb0 hs hz hx hR e1 hbt hl hbad hyo;go_enter Tryz.func27,Tryz.ntmps27
 go_wp2_with fail
 refine HC.out.mono ?_;rintro e W ⟨rfl,hb1⟩;have HBW:=lH (HB0.out.trans (hb1.mono (by simp)));have HR:=lH (HT.out.below hb1 (by simp));clear hb1 HC HB0 HT
 go_wp2_with fail
 refine(gU _ _ _ _).mono ?_;rintro e w2 ⟨rfl,rfl⟩;rw[Hbt.out]
 go_wp2_with fail
 go_loopw [10] (fun i wr=> ∃(k:Nat) (V':BkV) (B':Bk),k<=7/\i= iN qi (k:Int)/\dW wr w.heap.size (iN qi B'.hours) (sL V'.ta B'.towns.length V'.tc) (sL V'.la B'.links.length V'.lc) (sL V'.pa B'.pairs.length V'.pc)/\aB wr V' B'/\(B'.towns=B.towns/\B'.links.length=B.links.length/\tY (trk xs) p (7-k) k B'=yo)/\bX w.heap.size w wr) (fun i _=>7-(intOf i).toNat)
 case atStart=>exact⟨0,⟨ta,la,pa,tc,lc,pc⟩,B,by omega,rfl,HR.out,Hs.out.below HBW.out (nR _),⟨rfl,rfl,HY.out⟩,HBW.out⟩
 case round=>
  obtain⟨k,⟨ta',la',pa',tc',lc',pc'⟩,B',hk,rfl,hr,hi,hy,hb⟩:=hrel;obtain⟨wA,hwA⟩: ∃wA,wA=wr:=⟨wr,rfl⟩;subst hwA;have Hr:=lH hr;have Hi:=lH hi;have Hy:=lH hy;have Hb:=lH hb;obtain⟨_,p0,p1,p2,p3,_,_,_,_⟩:=hr;clear hi hy hb;by_cases hlt:k<=6
  ·have hlt2:(k:Int)<=6:=by omega
   have HC20:=lH (c20 ⟨ta',la',pa',tc',lc',pc'⟩ B' wA Hi.out (by rw[Hy.out.1];exact Hz.out));have hyd:tY (trk xs) p (7-k) k B'=if B'.alarm=0/\jk B' (trk xs)=true then tY (trk xs) p (7-(k+1)) (k+1) (bQ B' p) else some k:=by
    rw[show 7-k=(7-(k+1))+1 by omega];rfl
   rw[Hy.out.2.2] at hyd;have Hyd:=lH hyd;clear hyd
   go_wp2_with fail
   refine HC20.out.mono ?_;rintro e W2 ⟨rfl,hb2⟩;have HR2:=lH (Hr.out.below hb2 Hr.out.z);have HI2:=lH (Hi.out.below hb2 (nR _));have HB2:=lH (Hb.out.trans (hb2.mono Hb.out.size));clear hb2 HC20 p0 p1 p2 p3;obtain⟨_,p0,p1,p2,p3,_,_,_,_⟩:=HR2.out;by_cases hA':B'.alarm=0
   ·have hG:=gY hA';have HG:=lH hG;have HC65:=lH (c65 ⟨ta',la',pa',tc',lc',pc'⟩ B' hG xs xa xc W2 HI2.out (Hx.out.below HB2.out (nR _)) (by rw[Hy.out.2.1];exact Hl.out) HTk.out);rw[Hy.out.2.1,<-Hl.out,apy] at HC65;have hlv:(⟨ta',la',pa',tc',lc',pc'⟩:BkV).val B'= .agg #[iN qi B'.hours,sL ta' B'.towns.length tc',sL la' B'.links.length lc',sL pa' B'.pairs.length pc']:=rfl;rw[hA'];have Hyd2:=Hyd.out;rw[hA'] at Hyd2;simp only[true_and] at Hyd2;have Hyd3:=lH Hyd2;clear Hyd2 hA' hG hlv
    go_wp2_with fail
    refine HC65.out.mono ?_;rintro e W3 ⟨rfl,hb3⟩;have HR3:=lH (HR2.out.below hb3 HR2.out.z);have HI3:=lH (HI2.out.below hb3 (nR _));have HB3:=lH (HB2.out.trans (hb3.mono HB2.out.size));clear hb3 HC65 p0 p1 p2 p3;obtain⟨_,p0,p1,p2,p3,_,_,_,_⟩:=HR3.out
    cases hcar:jk B' (trk xs) with
    |true=>
     have hyn:yo=tY (trk xs) p (7-(k+1)) (k+1) (bQ B' p):=by rw[Hyd3.out,if_pos hcar]
     rw[<-apz] at hyn;have Hyn:=lH hyn;have HC68:=lH (r68 ⟨ta',la',pa',tc',lc',pc'⟩ B' HG.out p hp W3 HI3.out);clear hyn hcar
     go_wp2_with fail
     refine HC68.out.mono ?_;rintro e W4 ⟨na,nc,rfl,hi4,_,_,hb4⟩;have HR4:=lH (HR3.out.below hb4 HR3.out.z);have HB4:=lH (HB3.out.trans (hb4.mono HB3.out.size));have hval:(⟨ta',la',na,tc',lc',nc⟩:BkV).val (aoH B' p)= .agg #[iN qi B'.hours,sL ta' B'.towns.length tc',sL la' B'.links.length lc',sL na B'.pairs.length nc]:=by simp[BkV.val,aoH]
     rw[hval];have HF:Hid (∃(V'':BkV) (B'':Bk),dW ((((W4.setCell ⟨w.heap.size,0,none⟩ (iN qi B'.hours)).setCell ⟨w.heap.size,1,none⟩ (sL ta' B'.towns.length tc')).setCell ⟨w.heap.size,2,none⟩ (sL la' B'.links.length lc')).setCell ⟨w.heap.size,3,none⟩ (sL na B'.pairs.length nc)) w.heap.size (iN qi B''.hours) (sL V''.ta B''.towns.length V''.tc) (sL V''.la B''.links.length V''.lc) (sL V''.pa B''.pairs.length V''.pc)/\aB ((((W4.setCell ⟨w.heap.size,0,none⟩ (iN qi B'.hours)).setCell ⟨w.heap.size,1,none⟩ (sL ta' B'.towns.length tc')).setCell ⟨w.heap.size,2,none⟩ (sL la' B'.links.length lc')).setCell ⟨w.heap.size,3,none⟩ (sL na B'.pairs.length nc)) V'' B''/\(B''.towns=B.towns/\B''.links.length=B.links.length/\tY (trk xs) p (7-(k+1)) (k+1) B''=yo)/\bX w.heap.size w ((((W4.setCell ⟨w.heap.size,0,none⟩ (iN qi B'.hours)).setCell ⟨w.heap.size,1,none⟩ (sL ta' B'.towns.length tc')).setCell ⟨w.heap.size,2,none⟩ (sL la' B'.links.length lc')).setCell ⟨w.heap.size,3,none⟩ (sL na B'.pairs.length nc))):=lH ⟨⟨ta',la',na,tc',lc',nc⟩,aoH B' p,by rw[aoT];exact aiK HR4.out _ _ _ _,hi4.put4 HR4.out,⟨Hy.out.1,Hy.out.2.1,Hyn.out.symm⟩,aik HB4.out (nR _) rfl _ _ _ _⟩;clear hi4 hb4 HC68 p0 p1 p2 p3 hval;obtain⟨_,p0,p1,p2,p3,f0,f1,f2,f3⟩:=HR4.out;go_wp2;go_roundw
     case rel=>
      obtain⟨V'',B'',h1,h2,h3,h4⟩:=HF.out;exact⟨k+1,V'',B'',by omega,by go_num,h1,h2,h3,h4⟩
     case measure=>simp[intOf];omega
    |false=>
     have hyn:yo=some k:=by rw[Hyd3.out,hcar,if_neg (by decide)]
     subst hyn;clear hcar;go_wp2;refine bodyPost_ret (v:= .tuple #[iN qi (k:Int),.bool true,iN qi 0]) (by simp[results,Tryz.results27,go_sem]) rfl ⟨rfl,HB3.out⟩
   ·have hyn:yo=some k:=by rw[Hyd.out,if_neg (fun c=>hA' c.1)]
    subst hyn;have hA3:(B'.alarm != 0)=true:=by simpa using hA'
    generalize B'.alarm=A at *;clear hA';go_wp2;refine bodyPost_ret (v:= .tuple #[iN qi (k:Int),.bool true,iN qi 0]) (by simp[results,Tryz.results27,go_sem]) rfl ⟨rfl,HB2.out⟩
  ·have hlt2: ¬(k:Int)<=6:=by omega
   have hyn:yo=none:=by
    rw[<-Hy.out.2.2,show 7-k=0 by omega];rfl
   subst hyn;go_wp2;refine bodyPost_ret (v:= .tuple #[iN qi 0,.bool false,iN qi 0]) (by simp[results,Tryz.results27,go_sem]) rfl ⟨rfl,Hb.out⟩
theorem r27 (V:BkV) (B:Bk) (xs:List Int) (xa:Option Addr) (xc:Nat) (p:Int) (w:wD) (hs:aB w V B) (hz: ∀t∈B.towns,t.size<=1000000) (hx:SlI w xa xs) (hxl:xs.length<=1000000):
  Calls tP 27 #[V.val B,sL xa xs.length xc,iN qi p] w fun e w'=>e= rT (aoM B xs p)/\bX w.heap.size w w':=by
 by_cases hR:aH B xs true=0
 ·cases hbt:btw p 0 100 with
  |true=>exact apA V B xs xa xc p w hs hz hx hxl hR hbt
  |false=>
   rw[show aoM B xs p= .tuple #[iN qi 0,.bool false,iN qi 1] from by unfold aoM;rw[if_pos hR,hbt];rfl];exact apb V B xs xa xc p w hs hz hx hxl _ (.inr ⟨hR,hbt,rfl⟩)
 ·rw[show aoM B xs p= .tuple #[iN qi 0,.bool false,iN qi (aH B xs true)] from by unfold aoM;rw[if_neg hR]];exact apb V B xs xa xc p w hs hz hx hxl _ (.inl ⟨hR,rfl⟩)
end Go.Proofs.YtaikibfkggglgaaGreatDoor
