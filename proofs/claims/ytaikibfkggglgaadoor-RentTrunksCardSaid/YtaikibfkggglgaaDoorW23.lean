/- A part of the proof of a law; no conditions of its own. -/
import Derived.Test.YtaikibfkggglgaaDoorW22
set_option maxRecDepth 100000
open Nat renaming le_refl→nR
open Go.Lib renaming hid→lH
open Go.RowKit.Below renaming refl→bR
open Go.Proofs.Tryd renaming prog→tP
open List renaming getElem?_eq_getElem→lG
open List renaming getElem?_eq_some_iff→lS
open Go.World renaming cell?_setCell_other→wO
open Go.World renaming cell?_setCell_far→wF
open List renaming getD_eq_getElem?_getD→lD
set_option maxHeartbeats 4000000
namespace Go.Proofs.YtaikibfkggglgaaDoor
open Go.RowKit Go.Rent Go.Tp Go.Conc
theorem aaD {w w':World} {a:Option Addr} {r:Nat} (h:bG w a) (hg:w.grownBy w' (some r)) (hne: ∀ad,a=some ad->ad.block≠r):bG w' a:=fun ad e=>by
 obtain⟨c,t,z,h1⟩:=h ad e;exact⟨c,t,z,by rw[hg.block _ (Array.getElem?_eq_some_iff.1 h1).1 (fun e2=>by cases e2;exact hne ad e rfl)];exact h1⟩
theorem c91 (V:BkV) (B:Bk) (hG:Good B) (w:World) (hs:aB w V B) (hpc:V.pa=none->V.pc=0):
    Calls tP 91 #[V.val B] w fun e w'=> ∃V' O,e= .returned (V'.val B)/\bI w' w.heap.size V' B O/\Below w.heap.size w w':=by
  obtain⟨ta,la,pa,tc,lc,pc⟩:=V;have hl1:=hG.fine.links;have ht1:=hG.fine.towns;have hp1:=hG.fine.pairs;have hh1:=hG.fine.hours;unfold Bk.spokes at hl1;obtain⟨oa,oc,ho⟩:=aar hs.links;obtain⟨qa,qc,hq⟩:=aas hs.pairs;have HTW:=lH hs.towns;have HO:=lH ho;have HQ:=lH hq;have HG:=lH hG;have Hpc:=lH hpc;clear hs ho hq hG hpc;go_enter Tryd.func91,Tryd.ntmps91
  go_wp2_with fail
  generalize hWd:(w.alloc (.cells #[.int .i64 B.hours,.slice ta B.towns.length tc,.slice la B.links.length lc,.slice pa B.pairs.length pc] 89)).alloc (.cells #[.int .i64 0,.slice none 0 0,.slice none 0 0,.slice none 0 0] 89)=W;have HBW:Hid (Below w.heap.size w W):=lH (by subst hWd;exact((bR _ _).alloc (nR _) _).alloc (by simp) _);have HZ:Hid (W.heap.size=w.heap.size+2):=lH (by subst hWd;simp);have HBx:Hid (Bx W w.heap.size (.slice ta B.towns.length tc) (.slice la B.links.length lc) (.slice pa B.pairs.length pc)):=lH (by subst hWd;exact⟨by simp;omega,by go_simp,by go_simp,by go_simp,by go_simp,by go_simp,by go_simp⟩);have hc0:W.cell? ⟨w.heap.size,0,none⟩=some (.int .i64 B.hours):=by subst hWd;go_simp
  have HR:Hid (dW W (w.heap.size+1) (.int .i64 0) (.slice none 0 0) (.slice none 0 0) (.slice none 0 0)):=lH (by subst hWd;exact⟨by simp,by go_simp,by go_simp,by go_simp,by go_simp,by go_simp,by go_simp,by go_simp,by go_simp⟩);have Hc0:=lH hc0;clear hWd hc0;refine Code.wp_mono ?_ (aaC ta la pa tc lc pc B w W oa qa oc qc hl1 ht1 hp1 HTW HO HQ Hpc HBW HBx _);rintro e a w' hq
  cases e with
  |normal=>
    obtain⟨tb,tcap,lb,lcap,pb,pad,pcap,w3,h3,rfl,rfl⟩:=hq;have H3:=lH h3;clear h3;have hb3:=HBx.out.below H3.out.below;have hs1:w.heap.size≠w.heap.size+1:=by omega
    have hr4:=HR.out.below H3.out.below HR.out.z;have z3:=H3.out.below.size;have zW:=HZ.out;have HW1:Hid (∀{b o:Nat} {v:Value},w3.cell? ⟨b,o,none⟩=some v->b≠w.heap.size->(((w3.setCell ⟨w.heap.size,1,none⟩ (.slice (some ⟨tb,0,none⟩) B.towns.length tcap)).setCell ⟨w.heap.size,2,none⟩ (.slice (some ⟨lb,0,none⟩) B.links.length lcap)).setCell ⟨w.heap.size,3,none⟩ (.slice pad B.pairs.length pcap)).cell? ⟨b,o,none⟩=some v):=lH fun h0 hne=>by
      rw[wF _ _ _ _ (Ne.symm hne),wF _ _ _ _ (Ne.symm hne),wF _ _ _ _ (Ne.symm hne)];exact h0
    have HF1:Hid (∀a,(((w3.setCell ⟨w.heap.size,1,none⟩ (.slice (some ⟨tb,0,none⟩) B.towns.length tcap)).setCell ⟨w.heap.size,2,none⟩ (.slice (some ⟨lb,0,none⟩) B.links.length lcap)).setCell ⟨w.heap.size,3,none⟩ (.slice pad B.pairs.length pcap)).frozen? a=w3.frozen? a):=lH fun a=>by simp only[World.frozen?_setCell]
    have HS1:Hid ((((w3.setCell ⟨w.heap.size,1,none⟩ (.slice (some ⟨tb,0,none⟩) B.towns.length tcap)).setCell ⟨w.heap.size,2,none⟩ (.slice (some ⟨lb,0,none⟩) B.links.length lcap)).setCell ⟨w.heap.size,3,none⟩ (.slice pad B.pairs.length pcap)).heap.size=w3.heap.size):=lH (by simp);have HB1:Hid (Below w.heap.size w (((w3.setCell ⟨w.heap.size,1,none⟩ (.slice (some ⟨tb,0,none⟩) B.towns.length tcap)).setCell ⟨w.heap.size,2,none⟩ (.slice (some ⟨lb,0,none⟩) B.links.length lcap)).setCell ⟨w.heap.size,3,none⟩ (.slice pad B.pairs.length pcap))):=lH ((((HBW.out.trans (H3.out.below.mono HBW.out.size)).setCell (p:=⟨w.heap.size,1,none⟩) (nR _) _).setCell (p:=⟨w.heap.size,2,none⟩) (nR _) _).setCell (p:=⟨w.heap.size,3,none⟩) (nR _) _);have HRP:Hid (bG (((w3.setCell ⟨w.heap.size,1,none⟩ (.slice (some ⟨tb,0,none⟩) B.towns.length tcap)).setCell ⟨w.heap.size,2,none⟩ (.slice (some ⟨lb,0,none⟩) B.links.length lcap)).setCell ⟨w.heap.size,3,none⟩ (.slice pad B.pairs.length pcap)) pad):=lH fun ad e=>by
      obtain⟨c,t,z,h1⟩:=H3.out.rp ad e;have:=H3.out.rl ad e;have hne:ad.block≠w.heap.size:=by omega
      exact⟨c,t,z,by rw[Below.heap_setCell _ _ _ _ hne,Below.heap_setCell _ _ _ _ hne,Below.heap_setCell _ _ _ _ hne];exact h1⟩
    have d0:(((w3.setCell ⟨w.heap.size,1,none⟩ (.slice (some ⟨tb,0,none⟩) B.towns.length tcap)).setCell ⟨w.heap.size,2,none⟩ (.slice (some ⟨lb,0,none⟩) B.links.length lcap)).setCell ⟨w.heap.size,3,none⟩ (.slice pad B.pairs.length pcap)).cell? ⟨w.heap.size,0,none⟩=some (.int .i64 B.hours):=by
      have:=cell_below H3.out.below Hc0.out (nR _);rw[wO _ _ _ _ (by intro e;cases e),wO _ _ _ _ (by intro e;cases e),wO _ _ _ _ (by intro e;cases e)];exact this
    have d1:(((w3.setCell ⟨w.heap.size,1,none⟩ (.slice (some ⟨tb,0,none⟩) B.towns.length tcap)).setCell ⟨w.heap.size,2,none⟩ (.slice (some ⟨lb,0,none⟩) B.links.length lcap)).setCell ⟨w.heap.size,3,none⟩ (.slice pad B.pairs.length pcap)).cell? ⟨w.heap.size,1,none⟩=some (.slice (some ⟨tb,0,none⟩) B.towns.length tcap):=by
      rw[wO _ _ _ _ (by intro e;cases e),wO _ _ _ _ (by intro e;cases e)];exact World.cell?_setCell_same _ _ _ hb3.c1
    have d2:(((w3.setCell ⟨w.heap.size,1,none⟩ (.slice (some ⟨tb,0,none⟩) B.towns.length tcap)).setCell ⟨w.heap.size,2,none⟩ (.slice (some ⟨lb,0,none⟩) B.links.length lcap)).setCell ⟨w.heap.size,3,none⟩ (.slice pad B.pairs.length pcap)).cell? ⟨w.heap.size,2,none⟩=some (.slice (some ⟨lb,0,none⟩) B.links.length lcap):=by
      rw[wO _ _ _ _ (by intro e;cases e)];refine World.cell?_setCell_same _ _ _ (?_: _=some (.slice la B.links.length lc));rw[wO _ _ _ _ (by intro e;cases e)];exact hb3.c2
    have d3:(((w3.setCell ⟨w.heap.size,1,none⟩ (.slice (some ⟨tb,0,none⟩) B.towns.length tcap)).setCell ⟨w.heap.size,2,none⟩ (.slice (some ⟨lb,0,none⟩) B.links.length lcap)).setCell ⟨w.heap.size,3,none⟩ (.slice pad B.pairs.length pcap)).cell? ⟨w.heap.size,3,none⟩=some (.slice pad B.pairs.length pcap):=by
      refine World.cell?_setCell_same _ _ _ (?_: _=some (.slice pa B.pairs.length pc));rw[wO _ _ _ _ (by intro e;cases e),wO _ _ _ _ (by intro e;cases e)];exact hb3.c3
    generalize (((w3.setCell ⟨w.heap.size,1,none⟩ (.slice (some ⟨tb,0,none⟩) B.towns.length tcap)).setCell ⟨w.heap.size,2,none⟩ (.slice (some ⟨lb,0,none⟩) B.links.length lcap)).setCell ⟨w.heap.size,3,none⟩ (.slice pad B.pairs.length pcap))=W1 at *;have hne:w.heap.size≠lb:=by have:=H3.out.ll;omega
    have HD:=lH (And.intro d0 (And.intro d1 (And.intro d2 d3)));have HC1:Hid (C1 W1 B oa oc lb (fun _=>0) 0 W1):=lH ⟨EC _ _,by rw[HS1.out];exact H3.out.lh,fun j=>by rw[HF1.out];exact H3.out.lf j,fun i L hL=>by
      obtain⟨a,b,c⟩:=H3.out.links i L hL;exact⟨HW1.out a (by omega),HW1.out b (by omega),fun h=>absurd h (by omega),fun _=>HW1.out c (by omega)⟩,fun i h=>absurd h (by omega),fun i L _ h=>absurd h (by omega)⟩
    clear hb3 hr4 d0 d1 d3
    go_wp2_with fail
    go_loopw [27] (fun i wr=> ∃(k:Nat) (sb:Nat->Nat),k<=B.links.length/\i= .int .i64 (k:Int)/\C1 W1 B oa oc lb sb k wr) (fun i _=>B.links.length-(intOf i).toNat)
    case atStart=>exact⟨0,_,Nat.zero_le _,rfl,HC1.out⟩
    case round=>
      obtain⟨k,sb,hk,rfl,hI⟩:=hrel;have HI:=lH hI;clear hI;have q2:=dG HI.out.g HD.out.2.2.1 hne;have hll:=H3.out.ll;have HBr:Hid (Below w.heap.size w wr):=lH (HB1.out.grown HI.out.g HB1.out.size (fun j hj=>by cases hj;omega));by_cases hlt:k<B.links.length
      · have hL:B.links[k]? =some B.links[k]:=lG hlt
        obtain⟨_,ho2,ho3⟩:=HO.out k _ hL;have l3:=(HI.out.l k _ hL).2.2.2 (nR _);have hst1:=HG.out.steps k _ hL;have HL:=lH hL;generalize B.links[k]=L0 at *;clear hL;have hlf:=HI.out.f (k*3+2);have H114:Hid (Calls tP 114 #[.slice (oa k) L0.steps.length (oc k)] wr.drew fun e u'=> ∃g cap,e= .returned (.slice (some ⟨g,0,none⟩) L0.steps.length cap)/\Hid (wr.heap.size<=g/\g<u'.heap.size/\(∀(m:Nat) (x:Int×Int),L0.steps[m]? =some x->u'.cell? ⟨g,m*2,none⟩=some (.int .i64 x.1)/\u'.cell? ⟨g,m*2+1,none⟩=some (.int .i64 x.2))/\Below wr.heap.size wr u')/\
            u'.cell? ⟨w.heap.size,2,none⟩=some (.slice (some ⟨lb,0,none⟩) B.links.length lcap)/\u'.cell? ⟨lb,k*3+2,none⟩=some (.slice (oa k) L0.steps.length (oc k))/\u'.frozen? ⟨lb,k*3+2,none⟩=false):=lH (by
          have hbd:Below wr.heap.size wr wr.drew:=(bR _ _).drew;refine(aao L0.steps (oa k) (oc k) wr.drew (ho2.below (HBr.out.trans (hbd.mono HBr.out.size)) (nR _)) hst1 ho3).mono ?_;rintro e u' ⟨g,cap,rfl,h1,h2,h3,h4,h5⟩;have hb:=hbd.trans (h5.mono hbd.size);exact⟨g,cap,rfl,lH ⟨h1,h2,h3,hb⟩,cell_below hb q2 (nR _),cell_below hb l3 (nR _),by rw[(ak hb).2 _ _ HI.out.z];exact hlf⟩)
        have hlt':(k:Int)<(B.links.length:Int):=by omega
        have hk0:(0 :Int)<=(k:Int):=Int.natCast_nonneg _;clear ho2 ho3
        go_wp2_with fail
        go_region_with (go_simp;go_at_call 114;(with_reducible refine H114.out.mono ?_);rintro e u ⟨g,cap,rfl,hu,u2,u3,u4⟩)
        all_goals
          have HS:Hid (C1 W1 B oa oc lb (fun i=>if i=k then g else sb i) (k+1) (u.setCell ⟨lb,k*3+2,none⟩ (.slice (some ⟨g,0,none⟩) L0.steps.length cap))):=lH (HI.out.step (by rw[HS1.out];exact H3.out.lh) HL.out hu.out.2.2.2 hu.out.1 hu.out.2.1 hu.out.2.2.1);clear hu;go_wp2;go_roundw
          case rel=>exact⟨k+1,_,by omega,by go_num,HS.out⟩
          case measure=>simp[intOf];omega
      · have hke:k=B.links.length:=by omega
        subst hke;obtain⟨wA,hwA⟩: ∃wA,wA=wr:=⟨wr,rfl⟩;subst hwA;have q3:=dG HI.out.g HD.out.2.2.2 hne;have hpne:1<=B.pairs.length->pb≠lb:=fun _=>H3.out.ne.2.2.symm;have hsne:w.heap.size≠pb:=by have:=H3.out.pl;omega
        have HC2:Hid (C2 wA B qa qc pb (fun _=>0) 0 wA):=lH ⟨EC _ _,fun h1=>by
            obtain⟨p0,hp0⟩: ∃p0,B.pairs[0]? =some p0:=⟨_,lG (by omega)⟩;have:=(H3.out.pairs 0 p0 hp0).2.1;have hz:=HI.out.g.size;rw[HS1.out] at hz;omega,fun h1 j=>by
            obtain⟨p0,hp0⟩: ∃p0,B.pairs[0]? =some p0:=⟨_,lG (by omega)⟩;have hp:=H3.out.pairs 0 p0 hp0;rw[EZ HI.out.g (by rw[HS1.out];exact hp.2.1) (hpne h1),HF1.out];exact hp.2.2.2.2.2 j,fun i L hL=>by
            have h1:1<=B.pairs.length:=by have:=(lS.1 hL).1;omega
            obtain⟨_,_,a,b,c,_⟩:=H3.out.pairs i L hL;exact⟨dG HI.out.g (HW1.out a (Ne.symm hsne)) (hpne h1),dG HI.out.g (HW1.out b (Ne.symm hsne)) (hpne h1),fun h=>absurd h (by omega),fun _=>dG HI.out.g (HW1.out c (Ne.symm hsne)) (hpne h1)⟩,fun i h=>absurd h (by omega),fun i L _ h=>absurd h (by omega)⟩
        have HRA:Hid (bG wA pad):=lH (aaD HRP.out HI.out.g H3.out.rl2)
        go_wp2_with fail
        go_loopw [49] (fun i wr=> ∃(k:Nat) (cb:Nat->Nat),k<=B.pairs.length/\i= .int .i64 (k:Int)/\C2 wA B qa qc pb cb k wr/\bG wr pad/\(B.pairs.length=0->wr=wA)) (fun i _=>B.pairs.length-(intOf i).toNat)
        case atStart=>exact⟨0,_,Nat.zero_le _,rfl,HC2.out,HRA.out,fun _=>rfl⟩
        case round=>
          obtain⟨k,cb,hk2,rfl,hJ,hrw,hnil⟩:=hrel;have HJ:=lH hJ;have HNil:=lH hnil;have HRw:=lH hrw;clear hJ hrw hnil;have r3:=dG HJ.out.g q3 hsne;have hpl:=H3.out.pl;have HBq:Hid (Below w.heap.size w wr):=lH (HBr.out.grown HJ.out.g HBr.out.size (fun j hj=>by cases hj;omega));by_cases hlt:k<B.pairs.length
          · have hL:B.pairs[k]? =some B.pairs[k]:=lG hlt
            obtain⟨_,ho2,ho3⟩:=HQ.out k _ hL;have l3:=(HJ.out.l k _ hL).2.2.2 (nR _);have hst1:=(HG.out.fine.calls k _ hL).1;have hpad:=(H3.out.pairs k _ hL).1;have hpz:pb<wA.heap.size:=HC2.out.z (by omega);have HL:=lH hL;generalize B.pairs[k]=L0 at *;clear hL;have hlf:=HJ.out.f (by omega) (k*3+2);have hcl:1<=L0.calls.length:=by omega
            have H115:Hid (Calls tP 115 #[.slice (qa k) L0.calls.length (qc k)] wr.drew fun e u'=> ∃g cap,e= .returned (.slice (some ⟨g,0,none⟩) L0.calls.length cap)/\Hid (wr.heap.size<=g/\g<u'.heap.size/\(∀(m:Nat) (x:Int×Int),L0.calls[m]? =some x->u'.cell? ⟨g,m*2,none⟩=some (.int .i64 x.1)/\u'.cell? ⟨g,m*2+1,none⟩=some (.int .i64 x.2))/\(∀j,u'.frozen? ⟨g,j,none⟩=false)/\Below wr.heap.size wr u')/\
                u'.cell? ⟨w.heap.size,3,none⟩=some (.slice pad B.pairs.length pcap)/\u'.cell? ⟨pb,k*3+2,none⟩=some (.slice (qa k) L0.calls.length (qc k))/\u'.frozen? ⟨pb,k*3+2,none⟩=false):=lH (by
              have hbd:Below wr.heap.size wr wr.drew:=(bR _ _).drew;refine(aap L0.calls (qa k) (qc k) wr.drew (ho2.below (HBq.out.trans (hbd.mono HBq.out.size)) (nR _)) hcl ho3).mono ?_;rintro e u' ⟨g,cap,rfl,h1,h2,h3,h4,h5⟩;have hb:=hbd.trans (h5.mono hbd.size);exact⟨g,cap,rfl,lH ⟨h1,h2,h3,h4,hb⟩,cell_below hb r3 (nR _),cell_below hb l3 (nR _),by rw[(ak hb).2 _ _ (HJ.out.z (by omega))];exact hlf⟩)
            have hlt':(k:Int)<(B.pairs.length:Int):=by omega
            have hk0:(0 :Int)<=(k:Int):=Int.natCast_nonneg _;clear ho2 ho3 hst1;subst hpad
            go_wp2_with fail
            go_region_with (go_simp;go_at_call 115;(with_reducible refine H115.out.mono ?_);rintro e u ⟨g,cap,rfl,hu,u2,u3,u4⟩)
            all_goals
              have HS:Hid (C2 wA B qa qc pb (fun i=>if i=k then g else cb i) (k+1) (u.setCell ⟨pb,k*3+2,none⟩ (.slice (some ⟨g,0,none⟩) L0.calls.length cap))):=lH (HJ.out.step hpz HL.out hu.out.2.2.2.2 hu.out.1 hu.out.2.1 hu.out.2.2.1 hu.out.2.2.2.1);have HSR:Hid (bG (u.setCell ⟨pb,k*3+2,none⟩ (.slice (some ⟨g,0,none⟩) L0.calls.length cap)) (some ⟨pb,0,none⟩)):=lH (jm _ _ (nS HRw.out hu.out.2.2.2.2));clear hu;go_wp2;go_roundw
              case rel=>exact⟨k+1,_,by omega,by go_num,HS.out,HSR.out,fun h=>absurd h (by omega)⟩
              case measure=>simp[intOf];omega
          · have hke:k=B.pairs.length:=by omega
            subst hke;have s2:=dG HJ.out.g q2 hsne;have s0:=dG HJ.out.g (dG HI.out.g HD.out.1 hne) hsne;have s1:=dG HJ.out.g (dG HI.out.g HD.out.2.1 hne) hsne;have hr:=HR.out.below H3.out.below HR.out.z;have n1:w.heap.size+1≠w.heap.size:=by omega
            have n2:w.heap.size+1≠lb:=by omega
            have n3:w.heap.size+1≠pb:=by omega
            have x0:=dG HJ.out.g (dG HI.out.g (HW1.out hr.c0 n1) n2) n3;have x1:=dG HJ.out.g (dG HI.out.g (HW1.out hr.c1 n1) n2) n3;have x2:=dG HJ.out.g (dG HI.out.g (HW1.out hr.c2 n1) n2) n3;have x3:=dG HJ.out.g (dG HI.out.g (HW1.out hr.c3 n1) n2) n3;have hf: ∀j,w3.frozen? ⟨w.heap.size+1,j,none⟩=false->wr.frozen? ⟨w.heap.size+1,j,none⟩=false:=fun j hj=>by
              have z1:=HI.out.g.size;rw[HS1.out] at z1;rw[EZ HJ.out.g (by omega) n3,EZ HI.out.g (by rw[HS1.out];omega) n2,HF1.out];exact hj
            have y0:=hf 0 hr.f0;have y1:=hf 1 hr.f1;have y2:=hf 2 hr.f2;have y3:=hf 3 hr.f3;clear hf hr;go_wp2;have zA:=HI.out.g.size;rw[HS1.out] at zA;have zR:=HJ.out.g.size;have kJ: ∀{b o:Nat} {v:Value},wA.cell? ⟨b,o,none⟩=some v->(1<=B.pairs.length->b≠pb)->wr.cell? ⟨b,o,none⟩=some v:=fun {b o v} h0 h1=>by
              by_cases h:B.pairs.length=0
              · rw[HNil.out h];exact h0
              · exact dG HJ.out.g h0 (h1 (by omega))
            have hpz:1<=B.pairs.length->pb<w3.heap.size:=fun h=>by
              obtain⟨p0,hp0⟩: ∃p0,B.pairs[0]? =some p0:=⟨_,lG (by omega)⟩;exact(H3.out.pairs 0 p0 hp0).2.1
            have far: ∀{b o:Nat} {v:Value},wr.cell? ⟨b,o,none⟩=some v->b≠w.heap.size+1->(((((wr.setCell ⟨w.heap.size+1,0,none⟩ (.int .i64 B.hours)).setCell ⟨w.heap.size+1,1,none⟩ (.slice (some ⟨tb,0,none⟩) B.towns.length tcap)).setCell ⟨w.heap.size+1,2,none⟩ (.slice (some ⟨lb,0,none⟩) B.links.length lcap)).setCell ⟨w.heap.size+1,3,none⟩ (.slice pad B.pairs.length pcap))).cell? ⟨b,o,none⟩=some v:=fun h0 hne=>by
              rw[wF _ _ _ _ (Ne.symm hne),wF _ _ _ _ (Ne.symm hne),wF _ _ _ _ (Ne.symm hne),wF _ _ _ _ (Ne.symm hne)];exact h0
            obtain⟨ne1,ne2,ne3⟩:=H3.out.ne;have htl:=H3.out.tl;refine bodyPost_ret (v:= .agg #[.int .i64 B.hours,.slice (some ⟨tb,0,none⟩) B.towns.length tcap,.slice (some ⟨lb,0,none⟩) B.links.length lcap,.slice pad B.pairs.length pcap]) (by simp[results,Tryd.results91,go_sem,x0,x1,x2,x3]) rfl
              ⟨⟨some ⟨tb,0,none⟩,some ⟨lb,0,none⟩,pad,tcap,lcap,pcap⟩,⟨tb,lb,pb,sb,cb⟩,rfl,⟨rfl,rfl,fun i p hp=>(H3.out.pairs i p hp).1,H3.out.pc,jm _ _ (jm _ _ (jm _ _ (jm _ _ HRw.out))),H3.out.tk,fun i t ht=> ?_,fun i L hL=> ?_,fun i L m x hL hx=> ?_,fun i p hp=> ?_,fun i p m x hp hx=> ?_,fun i p hp=> ?_,fun i p hp=> ?_,⟨by show w.heap.size<=tb;omega,by show w.heap.size<=lb;omega,by show w.heap.size<=pb;omega,fun i L hL=> ?_⟩⟩, ?_⟩
            · have qt:tb≠w.heap.size+1:=by omega
              have qt0:tb≠w.heap.size:=by omega
              exact far (dG HJ.out.g (dG HI.out.g (HW1.out (H3.out.towns i t ht) qt0) ne1) ne2) qt
            · have hi:=(lS.1 hL).1
              have ql:lb≠w.heap.size+1:=by omega
              obtain⟨a,b,c,_⟩:=HI.out.l i L hL;obtain⟨sc,d⟩:=c hi;exact⟨far (dG HJ.out.g a ne3) ql,far (dG HJ.out.g b ne3) ql,sc,far (dG HJ.out.g d ne3) ql⟩
            · have hi:=(lS.1 hL).1
              have hsb:=HI.out.s i hi;rw[HS1.out] at hsb;have qs:sb i≠w.heap.size+1:=by omega
              have qj:1<=B.pairs.length->sb i≠pb:=fun h=>by have:=hpz h;omega
              obtain⟨a,b⟩:=HI.out.t i L hL hi m x hx;exact⟨far (kJ a qj) qs,far (kJ b qj) qs⟩
            · have hi:=(lS.1 hp).1
              have qp:pb≠w.heap.size+1:=by omega
              obtain⟨a,b,c,_⟩:=HJ.out.l i p hp;obtain⟨sc,d⟩:=c hi;exact⟨far a qp,far b qp,sc,far d qp⟩
            · have hi:=(lS.1 hp).1
              have hcb:=HJ.out.s i hi;have qc1:cb i≠w.heap.size+1:=by omega
              obtain⟨a,_⟩:=HJ.out.t i p hp hi;exact⟨far (a m x hx).1 qc1,far (a m x hx).2 qc1⟩
            · have hi:=(lS.1 hp).1
              have hcb:=HJ.out.s i hi;obtain⟨_,a⟩:=HJ.out.t i p hp hi;exact⟨⟨by simp only[World.size_setCell];exact hcb.2.1,by show w.heap.size<=cb i;omega⟩,fun j=>by simp only[World.frozen?_setCell];exact a j⟩
            · have hi:=(lS.1 hp).1
              have hcb:=HJ.out.s i hi;have hth:=H3.out.th;have hlh:=H3.out.lh;have hpb3:pb<w3.heap.size:=hpz (by omega);refine⟨by show cb i≠tb;omega,by show cb i≠lb;omega,by show cb i≠pb;omega,fun j L hL=> ?_,fun j q hq hj=>hcb.2.2 j (lS.1 hq).1 hj⟩;have hsb:=HI.out.s j (lS.1 hL).1
              show cb i≠sb j
              omega
            · have hsb:=HI.out.s i (lS.1 hL).1
              rw[HS1.out] at hsb
              show w.heap.size<=sb i
              omega
            · exact(((HBq.out.setCell (p:=⟨w.heap.size+1,0,none⟩) (Nat.le_succ _) _).setCell (p:=⟨w.heap.size+1,1,none⟩) (Nat.le_succ _) _).setCell (p:=⟨w.heap.size+1,2,none⟩) (Nat.le_succ _) _).setCell (p:=⟨w.heap.size+1,3,none⟩) (Nat.le_succ _) _
  |_=>exact hq.elim
def upB (p:Int) (x:Int×Int):Int×Int:=(upC x.1 p,upC x.2 p)
def bQ (B:Bk) (p:Int):Bk:={B with pairs:=B.pairs.map fun q=>{q with calls:=q.calls.map (upB p)}}
structure Gr (B B':Bk) (p:Int) (i h:Nat):Prop where
 hours:B'.hours=B.hours
 towns:B'.towns=B.towns
 links:B'.links=B.links
 len:B'.pairs.length=B.pairs.length
 at_: ∀(j:Nat) (q:Pr),B.pairs[j]? =some q-> ∃q',B'.pairs[j]? =some q'/\q'.one=q.one/\q'.two=q.two/\q'.calls.length=q.calls.length/\ ∀m,q'.calls[m]? =if j<i\/(j=i/\m<h) then (q.calls[m]?).map (upB p) else q.calls[m]?
theorem Gr.start (B:Bk) (p:Int):Gr B B p 0 0:=⟨rfl,rfl,rfl,rfl,fun j q hq=>⟨q,hq,rfl,rfl,rfl,fun m=>by rw[if_neg (by omega)]⟩⟩
theorem Gr.next {B B':Bk} {p:Int} {i h:Nat} {q:Pr} (g:Gr B B' p i h) (hq:B.pairs[i]? =some q) (hh:q.calls.length<=h):Gr B B' p (i+1) 0:=⟨g.hours,g.towns,g.links,g.len,fun j r hr=>by
 obtain⟨q',h0,h1,h2,h3,h4⟩:=g.at_ j r hr;refine⟨q',h0,h1,h2,h3,fun m=> ?_⟩;rw[h4 m];by_cases hj:j<i
 ·rw[if_pos (.inl hj),if_pos (.inl (by omega))]
 ·by_cases e:j=i
  ·subst e;rw[hq] at hr
   cases hr
   by_cases hm:m<h
   ·rw[if_pos (.inr ⟨rfl,hm⟩),if_pos (.inl (Nat.lt_succ_self _))]
   ·rw[if_neg (by omega),if_pos (.inl (Nat.lt_succ_self _)),List.getElem?_eq_none (by omega)];rfl
  ·rw[if_neg (by omega),if_neg (by omega)]⟩
theorem Gr.step {B B':Bk} {p:Int} {i h:Nat} {q:Pr} {x:Int×Int} (g:Gr B B' p i h) (hq:B.pairs[i]? =some q) (hx:q.calls[h]? =some x):Gr B (fD B' i h (upB p x)) p i (h+1):=
 ⟨g.hours,g.towns,g.links,by show (List.modify _ _ _).length=_;rw[List.length_modify];exact g.len,fun j r hr=>by
  obtain⟨q',h0,h1,h2,h3,h4⟩:=g.at_ j r hr;have hs: ∃q2,(fD B' i h (upB p x)).pairs[j]? =some q2:=by
   have:j<(fD B' i h (upB p x)).pairs.length:=by
    show j<(List.modify _ _ _).length
    rw[List.length_modify];exact(lS.1 h0).1
   exact⟨_,lG this⟩
  obtain⟨q2,hq2⟩:=hs;obtain⟨q3,e0,e1,e2,e3,e4⟩:=mO hq2;rw[h0] at e0
  cases e0
  refine⟨q2,hq2,e1.trans h1,e2.trans h2,e3.trans h3,fun m=> ?_⟩;rw[e4 m,h4 m];by_cases hj:j=i
  ·subst hj;rw[hq] at hr
   cases hr
   by_cases hm:m=h
   ·subst hm;have hl:=(lS.1 hx).1;rw[if_pos ⟨rfl,rfl,by omega⟩,if_pos (.inr ⟨rfl,by omega⟩),hx];rfl
   ·rw[if_neg (by rintro⟨_,e,_⟩;exact hm e)];by_cases hm2:m<h
    ·rw[if_pos (.inr ⟨rfl,hm2⟩),if_pos (.inr ⟨rfl,by omega⟩)]
    ·rw[if_neg (by omega),if_neg (by omega)]
  ·rw[if_neg (by rintro⟨e,_⟩;exact hj e)];by_cases hj2:j<i
   ·rw[if_pos (.inl hj2),if_pos (.inl hj2)]
   ·rw[if_neg (by omega),if_neg (by omega)]⟩
theorem Gr.all {B B':Bk} {p:Int} {i:Nat} (g:Gr B B' p i 0) (hi:B.pairs.length<=i):B'=bQ B p:=by
 obtain⟨hh,tt,ll,pp⟩:=B';have h1:=g.hours;have h2:=g.towns;have h3:=g.links;simp only at h1 h2 h3;subst h1 h2 h3;have h4:pp=B.pairs.map fun q=>{q with calls:=q.calls.map (upB p)}:=by
  refine List.ext_getElem? fun j=> ?_;rw[List.getElem?_map]
  cases hq:B.pairs[j]? with
  |none=>
   have hl:=g.len;simp only at hl;rw[List.getElem?_eq_none (by rw[hl];simpa using hq)];rfl
  |some q=>
   obtain⟨q',h0,e1,e2,e3,e4⟩:=g.at_ j q hq;simp only at h0;rw[h0];have hj:=(lS.1 hq).1;obtain⟨o,t,c⟩:=q';simp only at e1 e2 e4;have hc:c=q.calls.map (upB p):=List.ext_getElem? fun m=>by rw[e4 m,if_pos (.inl (by omega)),List.getElem?_map]
   rw[e1,e2,hc];rfl
 rw[h4];rfl
theorem Gr.pair {B B':Bk} {p:Int} {i h:Nat} {q:Pr} {x:Int×Int} (g:Gr B B' p i h) (hq:B.pairs[i]? =some q) (hx:q.calls[h]? =some x): ∃q',B'.pairs[i]? =some q'/\q'.calls.length=q.calls.length/\q'.calls[h]? =some x:=by
 obtain⟨q',h0,h1,h2,h3,h4⟩:=g.at_ i q hq;exact⟨q',h0,h3,by rw[h4 h,if_neg (by omega)];exact hx⟩
theorem c86 (V:BkV) (B:Bk) (hG:Good B) (p:Int) (hp:0<=p/\p<=100) (w:World) (hs:aB w V B) (hpc:V.pa=none->V.pc=0):
    Calls tP 86 #[V.val B,.int .i64 p] w fun e w'=> ∃V' O,e= .returned (V'.val B)/\bI w' w.heap.size V' (bQ B p) O/\Below w.heap.size w w':=by
  obtain⟨ta,la,pa,tc,lc,pc⟩:=V;have hl1:=hG.fine.links;have ht1:=hG.fine.towns;have hp1:=hG.fine.pairs;have Hs:=lH hs;have HG:=lH hG;have Hpc:=lH hpc;have Hp:=lH hp;clear hs hG hpc hp;go_enter Tryd.func86,Tryd.ntmps86
  go_wp2_with fail
  generalize hWd:((w.alloc (.cells #[.int .i64 B.hours,.slice ta B.towns.length tc,.slice la B.links.length lc,.slice pa B.pairs.length pc] 89)).alloc (.cells #[.int .i64 p] 3)).alloc (.cells #[.int .i64 0,.slice none 0 0,.slice none 0 0,.slice none 0 0] 89)=W;have HBW:Hid (Below w.heap.size w W):=lH (by subst hWd;exact(((bR _ _).alloc (nR _) _).alloc (by simp) _).alloc (by simp;omega) _);have HZ:Hid (W.heap.size=w.heap.size+3):=lH (by subst hWd;simp);have HA:Hid (dW W w.heap.size (.int .i64 B.hours) (.slice ta B.towns.length tc) (.slice la B.links.length lc) (.slice pa B.pairs.length pc)):=lH (by subst hWd;exact⟨by simp;omega,by go_simp,by go_simp,by go_simp,by go_simp,by go_simp,by go_simp,by go_simp,by go_simp⟩);have HR:Hid (dW W (w.heap.size+1+1) (.int .i64 0) (.slice none 0 0) (.slice none 0 0) (.slice none 0 0)):=lH (by subst hWd;exact⟨by simp,by go_simp,by go_simp,by go_simp,by go_simp,by go_simp,by go_simp,by go_simp,by go_simp⟩);have HPB:Hid (W.cell? ⟨w.heap.size+1,0,none⟩=some (.int .i64 p)):=lH (by subst hWd;go_simp);clear hWd;refine(c91 ⟨ta,la,pa,tc,lc,pc⟩ B HG.out W (Hs.out.below HBW.out (nR _)) Hpc.out).mono ?_;rintro e w1 ⟨V1,O,rfl,hO,hb1⟩;obtain⟨va,vl,vp,vtc,vlc,vpc⟩:=V1;have hr1:=HA.out.below hb1 HA.out.z;obtain⟨z1,a0,a1,a2,a3,g0,g1,g2,g3⟩:=hr1;have HO:=lH hO;have Hb1:=lH hb1;clear hO hb1
  go_wp2_with fail
  generalize hW1:(((w1.setCell ⟨w.heap.size,0,none⟩ (.int .i64 B.hours)).setCell ⟨w.heap.size,1,none⟩ (.slice va B.towns.length vtc)).setCell ⟨w.heap.size,2,none⟩ (.slice vl B.links.length vlc)).setCell ⟨w.heap.size,3,none⟩ (.slice vp B.pairs.length vpc)=W1;have HO1:Hid (bI W1 W.heap.size ⟨va,vl,vp,vtc,vlc,vpc⟩ B O):=lH (by
    have hz:=HZ.out;subst hW1;exact(((HO.out.far _ (by omega)).far _ (by omega)).far _ (by omega)).far _ (by omega))
  have HB1:Hid (Below w.heap.size w W1):=lH (by
    subst hW1;exact((((HBW.out.trans (Hb1.out.mono HBW.out.size)).setCell (p:=⟨w.heap.size,0,none⟩) (nR _) _).setCell (p:=⟨w.heap.size,1,none⟩) (nR _) _).setCell (p:=⟨w.heap.size,2,none⟩) (nR _) _).setCell (p:=⟨w.heap.size,3,none⟩) (nR _) _)
  have HS1:Hid (W.heap.size<=W1.heap.size):=lH (by subst hW1;simpa using Hb1.out.size);have HX:Hid (dW W1 w.heap.size (.int .i64 B.hours) (.slice va B.towns.length vtc) (.slice vl B.links.length vlc) (.slice vp B.pairs.length vpc)):=lH (by
    subst hW1;refine⟨by simp;exact z1, ?_, ?_, ?_, ?_,by simp only[World.frozen?_setCell];exact g0,by simp only[World.frozen?_setCell];exact g1,by simp only[World.frozen?_setCell];exact g2,by simp only[World.frozen?_setCell];exact g3⟩
    · rw[wO _ _ _ _ (by intro e;cases e),wO _ _ _ _ (by intro e;cases e),wO _ _ _ _ (by intro e;cases e)]
      exact World.cell?_setCell_same _ _ _ a0
    · rw[wO _ _ _ _ (by intro e;cases e),wO _ _ _ _ (by intro e;cases e)]
      refine World.cell?_setCell_same _ _ _ (?_: _=some (.slice ta B.towns.length tc));rw[wO _ _ _ _ (by intro e;cases e)];exact a1
    · rw[wO _ _ _ _ (by intro e;cases e)]
      refine World.cell?_setCell_same _ _ _ (?_: _=some (.slice la B.links.length lc));rw[wO _ _ _ _ (by intro e;cases e),wO _ _ _ _ (by intro e;cases e)];exact a2
    · refine World.cell?_setCell_same _ _ _ (?_: _=some (.slice pa B.pairs.length pc))
      rw[wO _ _ _ _ (by intro e;cases e),wO _ _ _ _ (by intro e;cases e),wO _ _ _ _ (by intro e;cases e)];exact a3)
  have HPc:Hid (W1.cell? ⟨w.heap.size+1,0,none⟩=some (.int .i64 p)):=lH (by
    have hne:w.heap.size≠w.heap.size+1:=by omega
    subst hW1;rw[wF _ _ _ _ hne,wF _ _ _ _ hne,wF _ _ _ _ hne,wF _ _ _ _ hne];exact cell_below Hb1.out HPB.out (nR _))
  have HR1:Hid (dW W1 (w.heap.size+1+1) (.int .i64 0) (.slice none 0 0) (.slice none 0 0) (.slice none 0 0)):=lH (by
    have hne:w.heap.size≠w.heap.size+1+1:=by omega
    subst hW1;exact(((((HR.out.below Hb1.out HR.out.z).other hne).other hne).other hne).other hne))
  have hnil:vp=none->vpc=0:=HO.out.pc;clear hW1 a0 a1 a2 a3 g0 g1 g2 g3 z1
  go_loopw [17] (fun i wr=> ∃(k:Nat) (B':Bk),k<=B.pairs.length/\i= .int .i64 (k:Int)/\bI wr W.heap.size ⟨va,vl,vp,vtc,vlc,vpc⟩ B' O/\Gr B B' p k 0/\Below W.heap.size W1 wr) (fun i _=>B.pairs.length-(intOf i).toNat)
  case atStart=>exact⟨0,B,Nat.zero_le _,rfl,HO1.out,Gr.start B p,bR _ _⟩
  case round=>
    obtain⟨k,B',hk,rfl,hO',hg,hb⟩:=hrel;have HO':=lH hO';have Hg:=lH hg;have Hb:=lH hb;clear hO' hg hb;have hz:=HZ.out;have b1:=ak Hb.out;have x0:=(b1.1 w.heap.size 0 (by omega)).trans HX.out.c0;have x1:=(b1.1 w.heap.size 1 (by omega)).trans HX.out.c1;have x2:=(b1.1 w.heap.size 2 (by omega)).trans HX.out.c2;have x3:=(b1.1 w.heap.size 3 (by omega)).trans HX.out.c3;have y0:=(b1.1 (w.heap.size+1) 0 (by omega)).trans HPc.out;clear b1;by_cases hlt:k<B.pairs.length
    · have hq:B.pairs[k]? =some B.pairs[k]:=lG hlt
      obtain⟨q',hq',e1,e2,e3,_⟩:=Hg.out.at_ k _ hq;obtain⟨l0,l1,sc,l2⟩:=HO'.out.pairs k q' hq';have hpa:=HO'.out.pa k q' hq';simp only at hpa;have hcl:=HG.out.fine.calls k _ hq;rw[e1] at l0;rw[e2] at l1;rw[e3] at l2;have hcb:=(HO'.out.free k q' hq').1;have Hq:=lH hq;have Hcb:=lH hcb;have Hcl:=lH hcl;generalize B.pairs[k]=q at *;clear hq hq' e1 e2 e3 hcb hcl;have hlt':(k:Int)<(B.pairs.length:Int):=by omega
      have hk0:(0 :Int)<=(k:Int):=Int.natCast_nonneg _;have hqs:q.calls.length<=3:=by have:=Hcl.out.1;have:=HG.out.fine.hours;omega
      subst hpa
      go_wp2_with fail
      have HW3:Hid (bI (wr.alloc (.cells #[.int .i64 q.one,.int .i64 q.two,.slice (some ⟨O.cb k,0,none⟩) q.calls.length sc] 67)) W.heap.size ⟨va,vl,some ⟨O.pb,0,none⟩,vtc,vlc,vpc⟩ B' O):=lH (HO'.out.below ((bR _ _).alloc (nR _) _));have HB3:Hid (Below W.heap.size W1 (wr.alloc (.cells #[.int .i64 q.one,.int .i64 q.two,.slice (some ⟨O.cb k,0,none⟩) q.calls.length sc] 67))):=lH (Hb.out.alloc (Nat.le_trans HS1.out Hb.out.size) _);have h7:(wr.alloc (.cells #[.int .i64 q.one,.int .i64 q.two,.slice (some ⟨O.cb k,0,none⟩) q.calls.length sc] 67)).cell? ⟨wr.heap.size,2,none⟩=some (.slice (some ⟨O.cb k,0,none⟩) q.calls.length sc):=by go_simp
      have H7:=lH h7;clear h7;generalize wr.alloc (.cells #[.int .i64 q.one,.int .i64 q.two,.slice (some ⟨O.cb k,0,none⟩) q.calls.length sc] 67)=W4 at *;have hb7:O.cb k≠wr.heap.size:=by have:=Hcb.out;omega
      have hbm:W.heap.size<=wr.heap.size:=Nat.le_trans HS1.out Hb.out.size;generalize wr.heap.size=b7 at *
      go_loopw [24] (fun i wr=> ∃(h:Nat) (B2:Bk),h<=q.calls.length/\i= .int .i64 (h:Int)/\bI wr W.heap.size ⟨va,vl,some ⟨O.pb,0,none⟩,vtc,vlc,vpc⟩ B2 O/\Gr B B2 p k h/\Below W.heap.size W1 wr/\wr.cell? ⟨b7,2,none⟩=some (.slice (some ⟨O.cb k,0,none⟩) q.calls.length sc)) (fun i _=>q.calls.length-(intOf i).toNat)
      case atStart=>exact⟨0,B',Nat.zero_le _,rfl,HW3.out,Hg.out,HB3.out,H7.out⟩
      case round=>
        obtain⟨h,B2,hh,rfl,hO2,hg2,hb2,i7⟩:=hrel;have HO2:=lH hO2;have Hg2:=lH hg2;have Hb2:=lH hb2;clear hO2 hg2 hb2;have y2:=((ak Hb2.out).1 (w.heap.size+1) 0 (by omega)).trans HPc.out;by_cases hlh:h<q.calls.length
        · have hx:q.calls[h]? =some q.calls[h]:=lG hlh
          obtain⟨q2,hq2,f1,f2⟩:=Hg2.out.pair Hq.out hx;obtain⟨c0,c1⟩:=HO2.out.calls k q2 h _ hq2 f2;have hfr:=(HO2.out.free k q2 hq2).2;have fr0:=hfr (h*2);have fr1:=hfr (h*2+1);have hxb:=Hcl.out.2 h _ hx;have Hx:=lH hx;have Hq2:=lH (And.intro hq2 f1);generalize q.calls[h]=x at *;clear hx hq2 f1 f2 hfr;have hlh':(h:Int)<(q.calls.length:Int):=by omega
          have hh0:(0 :Int)<=(h:Int):=Int.natCast_nonneg _;have hx1:0<=x.1/\x.1<=1000:=by omega
          have hx2:0<=x.2/\x.2<=1000:=by omega
          go_wp2_with fail
          generalize hWd:wr.alloc (.cells #[.int .i64 x.1,.int .i64 x.2] 53)=W5;have hbA:Below wr.heap.size wr W5:=by subst hWd;exact(bR _ _).alloc (nR _) _
          have k90:W5.cell? ⟨wr.heap.size,0,none⟩=some (.int .i64 x.1):=by subst hWd;go_simp
          have k91:W5.cell? ⟨wr.heap.size,1,none⟩=some (.int .i64 x.2):=by subst hWd;go_simp
          have k7:=cell_below hbA i7 (nR _);have kp:=cell_below hbA y2 (nR _);have kc0:=cell_below hbA c0 (nR _);have kc1:=cell_below hbA c1 (nR _);have hz5:=World.block_lt_of_cell? wr _ c0;have kf0:W5.frozen? ⟨O.cb k,h*2,none⟩=false:=by rw[(ak hbA).2 _ _ hz5];exact fr0
          have kf1:W5.frozen? ⟨O.cb k,h*2+1,none⟩=false:=by rw[(ak hbA).2 _ _ hz5];exact fr1
          have HbA:=lH hbA;have H1:Hid (Calls tP 109 #[.int .i64 x.1,.pointer (some ⟨w.heap.size+1,0,none⟩)] W5.drew fun e w'=>e= .returned (.int .i64 (upC x.1 p))/\w'=W5.drew):=lH (c109 x.1 p _ _ kp hx1 Hp.out);have H2:Hid (Calls tP 109 #[.int .i64 x.2,.pointer (some ⟨w.heap.size+1,0,none⟩)] W5.drew fun e w'=>e= .returned (.int .i64 (upC x.2 p))/\w'=W5.drew):=lH (c109 x.2 p _ _ kp hx2 Hp.out);have hcbn:O.cb k≠wr.heap.size:=by simp only at hz5;omega
          clear hWd hbA i7 y2 c0 c1 fr0 fr1
          go_region_held3 (fun w'=>w'.cell? ⟨b7,2,none⟩=some (.slice (some ⟨O.cb k,0,none⟩) q.calls.length sc)/\w'.cell? ⟨wr.heap.size,0,none⟩=some (.int .i64 x.1)/\w'.cell? ⟨wr.heap.size,1,none⟩=some (.int .i64 x.2))
            (first
              |exact⟨k7,k90,k91⟩
              | (refine⟨?_, ?_, ?_⟩
                 · change World.cell? (World.setCell (World.setCell W5 _ _) _ _) _=_;rw[wF _ _ _ _ hb7,wF _ _ _ _ hb7];exact k7
                 · change World.cell? (World.setCell (World.setCell W5 _ _) _ _) _=_;rw[wF _ _ _ _ hcbn,wF _ _ _ _ hcbn];exact k90
                 · change World.cell? (World.setCell (World.setCell W5 _ _) _ _) _=_;rw[wF _ _ _ _ hcbn,wF _ _ _ _ hcbn];exact k91))
            (first
              | (go_simp;go_at_call 109;(with_reducible refine H1.out.mono ?_);rintro e w' ⟨rfl,rfl⟩)
              | (go_simp;go_at_call 109;(with_reducible refine H2.out.mono ?_);rintro e w' ⟨rfl,rfl⟩))
          have HFin:Hid (bI (((W5.setCell ⟨O.cb k,h*2,none⟩ (.int .i64 (upC x.1 p))).setCell ⟨O.cb k,h*2+1,none⟩ (.int .i64 (upC x.2 p))).drew) W.heap.size ⟨va,vl,some ⟨O.pb,0,none⟩,vtc,vlc,vpc⟩ (fD B2 k h (upB p x)) O/\Below W.heap.size W1 (((W5.setCell ⟨O.cb k,h*2,none⟩ (.int .i64 (upC x.1 p))).setCell ⟨O.cb k,h*2+1,none⟩ (.int .i64 (upC x.2 p))).drew)/\
              (((W5.setCell ⟨O.cb k,h*2,none⟩ (.int .i64 (upC x.1 p))).setCell ⟨O.cb k,h*2+1,none⟩ (.int .i64 (upC x.2 p))).drew).cell? ⟨b7,2,none⟩=some (.slice (some ⟨O.cb k,0,none⟩) q.calls.length sc)):=lH (by
            refine⟨((HO2.out.below HbA.out).store Hq2.out.1 (by have:=Hq2.out.2;omega) (upB p x)).below (bR _ _).drew, ?_, ?_⟩
            · exact(((Hb2.out.trans (HbA.out.mono (Nat.le_trans HS1.out Hb2.out.size))).setCell (p:=⟨O.cb k,h*2,none⟩) Hcb.out.2 _).setCell (p:=⟨O.cb k,h*2+1,none⟩) Hcb.out.2 _).drew
            · change World.cell? (World.setCell (World.setCell W5 _ _) _ _) _=_
              rw[wF _ _ _ _ hb7,wF _ _ _ _ hb7];exact k7)
          go_wp2;go_roundw
          case rel=>exact⟨h+1,_,by omega,by go_num,HFin.out.1,Hg2.out.step Hq.out Hx.out,HFin.out.2.1,HFin.out.2.2⟩
          case measure=>simp[intOf];omega
        · have hhe:h=q.calls.length:=by omega
          go_wp2;go_roundw
          case rel=>exact⟨k+1,B2,by omega,by go_num,HO2.out,Hg2.out.next Hq.out (by omega),Hb2.out⟩
          case measure=>simp[intOf];omega
    · have hke:k=B.pairs.length:=by omega
      have hgo:B'=bQ B p:=Hg.out.all (by omega);subst hgo;have hb':=ak Hb.out;have r0:=(hb'.1 (w.heap.size+1+1) 0 (by omega)).trans HR1.out.c0;have r1:=(hb'.1 (w.heap.size+1+1) 1 (by omega)).trans HR1.out.c1;have r2:=(hb'.1 (w.heap.size+1+1) 2 (by omega)).trans HR1.out.c2;have r3:=(hb'.1 (w.heap.size+1+1) 3 (by omega)).trans HR1.out.c3;have g0:=(hb'.2 (w.heap.size+1+1) 0 (by omega)).trans HR1.out.f0;have g1:=(hb'.2 (w.heap.size+1+1) 1 (by omega)).trans HR1.out.f1;have g2:=(hb'.2 (w.heap.size+1+1) 2 (by omega)).trans HR1.out.f2;have g3:=(hb'.2 (w.heap.size+1+1) 3 (by omega)).trans HR1.out.f3;clear hb';go_wp2;have n2:w.heap.size+1+1<W.heap.size:=by omega
      have n3:w.heap.size<=w.heap.size+1+1:=by omega
      have hlow: ∀u n,bI u W.heap.size ⟨va,vl,vp,vtc,vlc,vpc⟩ (bQ B p) O->n<=W.heap.size->bI u n ⟨va,vl,vp,vtc,vlc,vpc⟩ (bQ B p) O:=fun u n h hn=>⟨h.ta,h.la,h.pa,h.pc,h.rp,h.tc,h.towns,h.links,h.steps,h.pairs,h.calls,fun i q hq=>⟨⟨(h.free i q hq).1.1,Nat.le_trans hn (h.free i q hq).1.2⟩,(h.free i q hq).2⟩,h.dis,⟨Nat.le_trans hn h.lo.1,Nat.le_trans hn h.lo.2.1,Nat.le_trans hn h.lo.2.2.1,fun i L hL=>Nat.le_trans hn (h.lo.2.2.2 i L hL)⟩⟩;refine bodyPost_ret (v:= .agg #[.int .i64 B.hours,.slice va B.towns.length vtc,.slice vl B.links.length vlc,.slice vp B.pairs.length vpc]) (by simp[results,Tryd.results86,go_sem,r0,r1,r2,r3]) rfl
        ⟨⟨va,vl,vp,vtc,vlc,vpc⟩,O,rfl,hlow _ _ ((((HO'.out.far _ n2).far _ n2).far _ n2).far _ n2) (by omega), ?_⟩
      exact((((HB1.out.trans (Hb.out.mono (by have:=HBW.out.size;omega))).setCell (p:=⟨w.heap.size+1+1,0,none⟩) n3 _).setCell (p:=⟨w.heap.size+1+1,1,none⟩) n3 _).setCell (p:=⟨w.heap.size+1+1,2,none⟩) n3 _).setCell (p:=⟨w.heap.size+1+1,3,none⟩) n3 _
def iD (B:Bk) (i h:Nat):Int×Int:=((B.pairs[i]?).bind (·.calls[h]?)).getD (0,0)
def nT (x:Int×Int) (n:Int):Int×Int:=(x.1+n,x.2+n)
def gtr (i:Nat) (n:Int):List Int->Bk->Bk×Bool
 | [],B=>(B,true)
 |h::l,B=>if dw (nT (iD B i h.toNat) n) then gtr i n l (fD B i h.toNat (nT (iD B i h.toNat) n)) else (B,false)
structure Shape (B B':Bk) (i L:Nat):Prop where
 hours:B'.hours=B.hours
 towns:B'.towns=B.towns
 links:B'.links=B.links
 len:B'.pairs.length=B.pairs.length
 pair: ∃q,B'.pairs[i]? =some q/\q.calls.length=L/\ ∀(m:Nat) (x:Int×Int),q.calls[m]? =some x->dw x=true
theorem Shape.step {B B':Bk} {i L h:Nat} (s:Shape B B' i L) {y:Int×Int} (hy:dw y=true):Shape B (fD B' i h y) i L:=by
 obtain⟨q,hq,hl,hb⟩:=s.pair;have hlen:(fD B' i h y).pairs.length=B'.pairs.length:=by show (List.modify _ _ _).length=_;rw[List.length_modify]
 have hi:i<(fD B' i h y).pairs.length:=by rw[hlen];exact(lS.1 hq).1
 obtain⟨q3,e0,e1,e2,e3,e4⟩:=mO (lG hi);rw[hq] at e0
 cases e0
 refine⟨s.hours,s.towns,s.links,hlen.trans s.len,_,lG hi,e3.trans hl,fun m x hx=> ?_⟩;rw[e4 m] at hx
 split at hx
 ·cases hx;exact hy
 ·exact hb m x hx
theorem Shape.band {B B':Bk} {i L h:Nat} (s:Shape B B' i L) (hh:h<L): ∃q,B'.pairs[i]? =some q/\q.calls.length=L/\q.calls[h]? =some (iD B' i h)/\(0<=(iD B' i h).1/\(iD B' i h).1<=(iD B' i h).2/\(iD B' i h).2<=5):=by
 obtain⟨q,hq,hl,hb⟩:=s.pair;have hx:q.calls[h]? =some q.calls[h]:=lG (by omega);have e:iD B' i h=q.calls[h]:=by unfold iD;rw[hq,Option.bind_some,hx];rfl
 have:=hb h _ hx;rw[<-e] at hx this;refine⟨q,hq,hl,hx, ?_⟩;simpa[dw] using this
theorem aaE {i:Nat} {n:Int} {l:List Int} {k:Nat} {B:Bk} (hk:k<l.length) (h:dw (nT (iD B i (trk l k).toNat) n)=true):gtr i n (l.drop k) B=gtr i n (l.drop (k+1)) (fD B i (trk l k).toNat (nT (iD B i (trk l k).toNat) n)):=by
 have t1:trk l k=l[k]:=by unfold trk;rw[lD,lG hk];rfl
 rw[t1] at h ⊢;rw[List.drop_eq_getElem_cons hk,gtr,if_pos h]
theorem aaF {i:Nat} {n:Int} {l:List Int} {k:Nat} {B:Bk} (hk:k<l.length) (h: ¬dw (nT (iD B i (trk l k).toNat) n)=true):(gtr i n (l.drop k) B).2=false:=by
 have t1:trk l k=l[k]:=by unfold trk;rw[lD,lG hk];rfl
 rw[t1] at h;rw[List.drop_eq_getElem_cons hk,gtr,if_neg h]
theorem aaG {i:Nat} {n:Int} {l:List Int} {k:Nat} {B:Bk} (hk:l.length<=k):gtr i n (l.drop k) B=(B,true):=by rw[List.drop_of_length_le hk];rfl
theorem c84 (V:BkV) (B:Bk) (hG:Good B) (i:Nat) (hi:i<B.pairs.length) (n:Int) (hn:0<=n/\n<=1000) (l:List Int) (la0:Option Addr) (lc0:Nat) (w:World) (hs:aB w V B) (hpc:V.pa=none->V.pc=0) (hl:SlI w la0 l) (hll:l.length<=1000) (hlh: ∀x∈l,0<=x/\x<B.hours):
  Calls tP 84 #[V.val B,.int .i64 (i:Int),.int .i64 n,.slice la0 l.length lc0] w fun e w'=> ∃V' O,e= .returned (.tuple #[V'.val B,.bool (gtr i n l B).2])/\((gtr i n l B).2=true->bI w' w.heap.size V' (gtr i n l B).1 O)/\Below w.heap.size w w':=by
 obtain⟨ta,la,pa,tc,lc,pc⟩:=V;have hl1:=hG.fine.links;have ht1:=hG.fine.towns;have hp1:=hG.fine.pairs;have hh1:=hG.fine.hours;have Hs:=lH hs;have HG:=lH hG;have Hpc:=lH hpc;have Hl:=lH hl;have Hlh:=lH hlh;clear hs hG hpc hl hlh;go_enter Tryd.func84,Tryd.ntmps84
 go_wp2_with fail
 generalize hWd:(w.alloc (.cells #[.int .i64 B.hours,.slice ta B.towns.length tc,.slice la B.links.length lc,.slice pa B.pairs.length pc] 89)).alloc (.cells #[.int .i64 0,.slice none 0 0,.slice none 0 0,.slice none 0 0] 89)=W;have HBW:Hid (Below w.heap.size w W):=lH (by subst hWd;exact((bR _ _).alloc (nR _) _).alloc (by simp) _);have HZ:Hid (W.heap.size=w.heap.size+2):=lH (by subst hWd;simp);have HA:Hid (dW W w.heap.size (.int .i64 B.hours) (.slice ta B.towns.length tc) (.slice la B.links.length lc) (.slice pa B.pairs.length pc)):=lH (by subst hWd;exact⟨by simp;omega,by go_simp,by go_simp,by go_simp,by go_simp,by go_simp,by go_simp,by go_simp,by go_simp⟩);have HR:Hid (dW W (w.heap.size+1) (.int .i64 0) (.slice none 0 0) (.slice none 0 0) (.slice none 0 0)):=lH (by subst hWd;exact⟨by simp,by go_simp,by go_simp,by go_simp,by go_simp,by go_simp,by go_simp,by go_simp,by go_simp⟩);clear hWd;refine(c91 ⟨ta,la,pa,tc,lc,pc⟩ B HG.out W (Hs.out.below HBW.out (nR _)) Hpc.out).mono ?_;rintro e w1 ⟨V1,O,rfl,hO,hb1⟩;obtain⟨va,vl,vp,vtc,vlc,vpc⟩:=V1;have hr1:=HA.out.below hb1 HA.out.z;obtain⟨z1,a0,a1,a2,a3,g0,g1,g2,g3⟩:=hr1;have HO:=lH hO;have Hb1:=lH hb1;clear hO hb1
 go_wp2_with fail
 generalize hW1:(((w1.setCell ⟨w.heap.size,0,none⟩ (.int .i64 B.hours)).setCell ⟨w.heap.size,1,none⟩ (.slice va B.towns.length vtc)).setCell ⟨w.heap.size,2,none⟩ (.slice vl B.links.length vlc)).setCell ⟨w.heap.size,3,none⟩ (.slice vp B.pairs.length vpc)=W1;have HO1:Hid (bI W1 W.heap.size ⟨va,vl,vp,vtc,vlc,vpc⟩ B O):=lH (by
  have hz:=HZ.out;subst hW1;exact(((HO.out.far _ (by omega)).far _ (by omega)).far _ (by omega)).far _ (by omega))
 have HB1:Hid (Below w.heap.size w W1):=lH (by
  subst hW1;exact((((HBW.out.trans (Hb1.out.mono HBW.out.size)).setCell (p:=⟨w.heap.size,0,none⟩) (nR _) _).setCell (p:=⟨w.heap.size,1,none⟩) (nR _) _).setCell (p:=⟨w.heap.size,2,none⟩) (nR _) _).setCell (p:=⟨w.heap.size,3,none⟩) (nR _) _)
 have HS1:Hid (W.heap.size<=W1.heap.size):=lH (by subst hW1;simpa using Hb1.out.size);have HX:Hid (dW W1 w.heap.size (.int .i64 B.hours) (.slice va B.towns.length vtc) (.slice vl B.links.length vlc) (.slice vp B.pairs.length vpc)):=lH (by
  subst hW1;refine⟨by simp;exact z1, ?_, ?_, ?_, ?_,by simp only[World.frozen?_setCell];exact g0,by simp only[World.frozen?_setCell];exact g1,by simp only[World.frozen?_setCell];exact g2,by simp only[World.frozen?_setCell];exact g3⟩
  ·rw[wO _ _ _ _ (by intro e;cases e),wO _ _ _ _ (by intro e;cases e),wO _ _ _ _ (by intro e;cases e)];exact World.cell?_setCell_same _ _ _ a0
  ·rw[wO _ _ _ _ (by intro e;cases e),wO _ _ _ _ (by intro e;cases e)];refine World.cell?_setCell_same _ _ _ (?_: _=some (.slice ta B.towns.length tc));rw[wO _ _ _ _ (by intro e;cases e)];exact a1
  ·rw[wO _ _ _ _ (by intro e;cases e)];refine World.cell?_setCell_same _ _ _ (?_: _=some (.slice la B.links.length lc));rw[wO _ _ _ _ (by intro e;cases e),wO _ _ _ _ (by intro e;cases e)];exact a2
  ·refine World.cell?_setCell_same _ _ _ (?_: _=some (.slice pa B.pairs.length pc));rw[wO _ _ _ _ (by intro e;cases e),wO _ _ _ _ (by intro e;cases e),wO _ _ _ _ (by intro e;cases e)];exact a3)
 have HR1:Hid (dW W1 (w.heap.size+1) (.int .i64 0) (.slice none 0 0) (.slice none 0 0) (.slice none 0 0)):=lH (by
  have hne:w.heap.size≠w.heap.size+1:=by omega
  subst hW1;exact(((((HR.out.below Hb1.out HR.out.z).other hne).other hne).other hne).other hne))
 have hlow:Hid (∀u B2,bI u W.heap.size ⟨va,vl,vp,vtc,vlc,vpc⟩ B2 O->bI u w.heap.size ⟨va,vl,vp,vtc,vlc,vpc⟩ B2 O):=lH fun u B2 h=>
  have hn:=HBW.out.size
  ⟨h.ta,h.la,h.pa,h.pc,h.rp,h.tc,h.towns,h.links,h.steps,h.pairs,h.calls,fun i q hq=>⟨⟨(h.free i q hq).1.1,Nat.le_trans hn (h.free i q hq).1.2⟩,(h.free i q hq).2⟩,h.dis,⟨Nat.le_trans hn h.lo.1,Nat.le_trans hn h.lo.2.1,Nat.le_trans hn h.lo.2.2.1,fun i L hL=>Nat.le_trans hn (h.lo.2.2.2 i L hL)⟩⟩
 have hp0:B.pairs[i]? =some B.pairs[i]:=lG hi;have HSh:Hid (Shape B B i B.hours.toNat):=lH ⟨rfl,rfl,rfl,rfl,_,hp0,by have:=(HG.out.fine.calls i _ hp0).1;omega,fun m x hx=>by
  have:=(HG.out.fine.calls i _ hp0).2 m x hx;simpa[dw] using this⟩
 clear hW1 a0 a1 a2 a3 g0 g1 g2 g3 z1 hp0
 go_loopw [17] (fun j wr=> ∃(k:Nat) (B':Bk),k<=l.length/\j= .int .i64 (k:Int)/\bI wr W.heap.size ⟨va,vl,vp,vtc,vlc,vpc⟩ B' O/\Shape B B' i B.hours.toNat/\gtr i n l B=gtr i n (l.drop k) B'/\Below W.heap.size W1 wr) (fun j _=>l.length-(intOf j).toNat)
 case atStart=>exact⟨0,B,Nat.zero_le _,rfl,HO1.out,HSh.out,rfl,bR _ _⟩
 case round=>
  obtain⟨k,B',hk,rfl,hO',hsh,hgt,hb⟩:=hrel;have HO':=lH hO';have Hsh:=lH hsh;have Hgt:=lH hgt;have Hb:=lH hb;clear hO' hsh hgt hb;have hz:=HZ.out;have b1:=ak Hb.out;have x0:=(b1.1 w.heap.size 0 (by omega)).trans HX.out.c0;have x1:=(b1.1 w.heap.size 1 (by omega)).trans HX.out.c1;have x2:=(b1.1 w.heap.size 2 (by omega)).trans HX.out.c2;have x3:=(b1.1 w.heap.size 3 (by omega)).trans HX.out.c3;have r0:=(b1.1 (w.heap.size+1) 0 (by omega)).trans HR1.out.c0;have r1:=(b1.1 (w.heap.size+1) 1 (by omega)).trans HR1.out.c1;have r2:=(b1.1 (w.heap.size+1) 2 (by omega)).trans HR1.out.c2;have r3:=(b1.1 (w.heap.size+1) 3 (by omega)).trans HR1.out.c3;have g0:=(b1.2 (w.heap.size+1) 0 (by omega)).trans HR1.out.f0;have g1:=(b1.2 (w.heap.size+1) 1 (by omega)).trans HR1.out.f1;have g2:=(b1.2 (w.heap.size+1) 2 (by omega)).trans HR1.out.f2;have g3:=(b1.2 (w.heap.size+1) 3 (by omega)).trans HR1.out.f3;clear b1;have n2:w.heap.size+1<W.heap.size:=by omega
  have n3:w.heap.size<=w.heap.size+1:=by omega
  have HBr:Hid (Below w.heap.size w wr):=lH (HB1.out.trans (Hb.out.mono (by omega)));by_cases hlt:k<l.length
  ·obtain⟨lb,lo,rfl,hlk⟩:=oL (Hl.out.below HBr.out (nR _)) hlt;have hmem:trk l k∈l:=by
    have t1:trk l k=l[k]:=by unfold trk;rw[lD,lG hlt];rfl
    rw[t1];exact List.getElem_mem hlt
   have hhr:=Hlh.out _ hmem;obtain⟨h,hhe⟩: ∃h:Nat,trk l k=(h:Int):=⟨(trk l k).toNat,by omega⟩;have hhit:=aaE (i:=i) (n:=n) (B:=B') hlt;have hmiss:=aaF (i:=i) (n:=n) (B:=B') hlt;rw[hhe,Int.toNat_natCast] at hhit hmiss;rw[hhe] at hlk hhr;obtain⟨q',hq',hql,hqx,hxb⟩:=Hsh.out.band (h:=h) (by omega);obtain⟨_,_,sc,l2⟩:=HO'.out.pairs i q' hq';have hpa:=HO'.out.pa i q' hq';simp only at hpa;rw[hql] at l2;obtain⟨c0,c1⟩:=HO'.out.calls i q' h _ hq' hqx;have hfr:=(HO'.out.free i q' hq').2;have hcb:=(HO'.out.free i q' hq').1;have fr0:=hfr (h*2);have fr1:=hfr (h*2+1);have Hhit:=lH hhit;have Hmiss:=lH hmiss;have Hq:=lH (And.intro hq' hql);have Hcb:=lH hcb;have hbd:Hid (iD B' i h=((iD B' i h).1,(iD B' i h).2)):=lH rfl;generalize hxx:iD B' i h=x at *;obtain⟨y1,y2⟩:=x;simp only at c0 c1 hxb;clear hmem hhe hhit hmiss hq' hql hqx hfr hcb hxx hbd;subst hpa;have hi':(i:Int)<(B.pairs.length:Int):=by omega
   have hi0:(0 :Int)<=(i:Int):=Int.natCast_nonneg _;have hlt':(k:Int)<(l.length:Int):=by omega
   have hk0:(0 :Int)<=(k:Int):=Int.natCast_nonneg _;have hh0:(0 :Int)<=(h:Int):=Int.natCast_nonneg _;have hhL:(h:Int)<(B.hours.toNat:Int):=by omega
   have w1r:IntKind.wrap .i64 (y1+n)=y1+n:=IntWalk.i64_in _ (by omega);have w2r:IntKind.wrap .i64 (y2+n)=y2+n:=IntWalk.i64_in _ (by omega);have HS:Hid (bI (((wr.setCell ⟨O.cb i,h*2,none⟩ (.int .i64 (y1+n))).setCell ⟨O.cb i,h*2+1,none⟩ (.int .i64 (y2+n))).drew) W.heap.size ⟨va,vl,some ⟨O.pb,0,none⟩,vtc,vlc,vpc⟩ (fD B' i h (nT (y1,y2) n)) O):=lH ((HO'.out.store Hq.out.1 (by have:=Hq.out.2;omega) (nT (y1,y2) n)).below (bR _ _).drew);have HBS:Hid (Below W.heap.size W1 (((wr.setCell ⟨O.cb i,h*2,none⟩ (.int .i64 (y1+n))).setCell ⟨O.cb i,h*2+1,none⟩ (.int .i64 (y2+n))).drew)):=lH ((Hb.out.setCell (p:=⟨O.cb i,h*2,none⟩) Hcb.out.2 _).setCell (p:=⟨O.cb i,h*2+1,none⟩) Hcb.out.2 _).drew
   go_wp2_with fail
   go_region_with (fail)
   all_goals
    generalize hWs:(((wr.setCell ⟨O.cb i,h*2,none⟩ (.int .i64 (y1+n))).setCell ⟨O.cb i,h*2+1,none⟩ (.int .i64 (y2+n))).drew)=W6 at *;have d0:W6.cell? ⟨O.cb i,h*2,none⟩=some (.int .i64 (y1+n)):=by
     subst hWs
     change World.cell? (World.setCell (World.setCell wr _ _) _ _) _=_
     rw[wO _ _ _ _ (by intro e;simp only[Addr.mk.injEq] at e;omega)];exact World.cell?_setCell_same _ _ _ c0
    have d1:W6.cell? ⟨O.cb i,h*2+1,none⟩=some (.int .i64 (y2+n)):=by
     subst hWs
     change World.cell? (World.setCell (World.setCell wr _ _) _ _) _=_
     refine World.cell?_setCell_same _ _ _ (?_: _=some (.int .i64 y2));rw[wO _ _ _ _ (by intro e;simp only[Addr.mk.injEq] at e;omega)];exact c1
    have HBx:Hid (∀w7,Below W6.heap.size W6 w7->Below W.heap.size W1 w7):=lH fun w7 h7=>HBS.out.trans (h7.mono (Nat.le_trans HS1.out HBS.out.size));clear hWs c0 c1 fr0 fr1 x0 x1 x2 x3 r0 r1 r2 r3 g0 g1 g2 g3
    go_wp2_with fail
    refine(c90 (y1+n) (y2+n) _).mono ?_;rintro e w7 ⟨rfl,hb7⟩;have HO7:=lH (HS.out.below hb7);have hb7':=HBx.out w7 hb7;have Hb7:=lH hb7';have b1:=ak hb7';have x0:=(b1.1 w.heap.size 0 (by omega)).trans HX.out.c0;have x1:=(b1.1 w.heap.size 1 (by omega)).trans HX.out.c1;have x2:=(b1.1 w.heap.size 2 (by omega)).trans HX.out.c2;have x3:=(b1.1 w.heap.size 3 (by omega)).trans HX.out.c3;have r0:=(b1.1 (w.heap.size+1) 0 (by omega)).trans HR1.out.c0;have r1:=(b1.1 (w.heap.size+1) 1 (by omega)).trans HR1.out.c1;have r2:=(b1.1 (w.heap.size+1) 2 (by omega)).trans HR1.out.c2;have r3:=(b1.1 (w.heap.size+1) 3 (by omega)).trans HR1.out.c3;have g0:=(b1.2 (w.heap.size+1) 0 (by omega)).trans HR1.out.f0;have g1:=(b1.2 (w.heap.size+1) 1 (by omega)).trans HR1.out.f1;have g2:=(b1.2 (w.heap.size+1) 2 (by omega)).trans HR1.out.f2;have g3:=(b1.2 (w.heap.size+1) 3 (by omega)).trans HR1.out.f3;clear b1 hb7 hb7' d0 d1;by_cases hbo:dw (y1+n,y2+n)=true
    ·have HH:=lH (Hgt.out.trans (Hhit.out hbo));have HSt:=lH (Hsh.out.step (h:=h) hbo);rw[hbo];go_wp2;go_roundw
     case rel=>exact⟨k+1,_,by omega,by go_num,HO7.out,HSt.out,HH.out,Hb7.out⟩
     case measure=>simp[intOf];omega
    ·have HM:Hid ((gtr i n l B).2=false):=lH (by rw[Hgt.out];exact Hmiss.out hbo);have hbf:dw (y1+n,y2+n)=false:=by simpa using hbo
     rw[hbf];go_wp2;refine bodyPost_ret (v:= .tuple #[.agg #[.int .i64 B.hours,.slice va B.towns.length vtc,.slice vl B.links.length vlc,.slice (some ⟨O.pb,0,none⟩) B.pairs.length vpc],.bool false]) (by simp[results,Tryd.results84,go_sem,r0,r1,r2,r3]) rfl
      ⟨⟨va,vl,some ⟨O.pb,0,none⟩,vtc,vlc,vpc⟩,O,by rw[HM.out],fun h=>absurd h (by rw[HM.out];decide), ?_⟩
     exact((((HB1.out.trans (Hb7.out.mono (by omega))).setCell (p:=⟨w.heap.size+1,0,none⟩) n3 _).setCell (p:=⟨w.heap.size+1,1,none⟩) n3 _).setCell (p:=⟨w.heap.size+1,2,none⟩) n3 _).setCell (p:=⟨w.heap.size+1,3,none⟩) n3 _
  ·have hke:k=l.length:=by omega
   have he:=Hgt.out.trans (aaG (by omega));have HE:=lH he;clear he;go_wp2;refine bodyPost_ret (v:= .tuple #[.agg #[.int .i64 B.hours,.slice va B.towns.length vtc,.slice vl B.links.length vlc,.slice vp B.pairs.length vpc],.bool true]) (by simp[results,Tryd.results84,go_sem,r0,r1,r2,r3]) rfl
    ⟨⟨va,vl,vp,vtc,vlc,vpc⟩,O,by rw[HE.out],fun _=> ?_, ?_⟩
   ·rw[HE.out];exact hlow.out _ _ ((((HO'.out.far _ n2).far _ n2).far _ n2).far _ n2)
   ·exact(((HBr.out.setCell (p:=⟨w.heap.size+1,0,none⟩) n3 _).setCell (p:=⟨w.heap.size+1,1,none⟩) n3 _).setCell (p:=⟨w.heap.size+1,2,none⟩) n3 _).setCell (p:=⟨w.heap.size+1,3,none⟩) n3 _
end Go.Proofs.YtaikibfkggglgaaDoor
