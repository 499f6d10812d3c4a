/- A part of the proof of a law; no conditions of its own. -/
import Derived.Test.YtfiiffnbggnkfaaDoorAv22
open Go.RowKit renaming Below→bX
open Go renaming Calls→cF, World→wD
open Go.IntKind renaming i64→qi
open Go.Value renaming int→iN, slice→sL, pointer→pN
open Go.Ending renaming returned→rT
open Go.Obj renaming cells→cL
set_option maxRecDepth 100000
open Go renaming undef→ud
open Nat renaming le_refl→nR
open Go.Lib renaming hid→lH
open Go.RowKit.Below renaming refl→bR
open Go.Proofs.Tryd renaming prog→tP
open List renaming getElem?_eq_getElem→lG
open Go.World renaming cell?_setCell_other→wO
open Go.World renaming cell?_setCell_far→wF
open List renaming getD_eq_getElem?_getD→lD
set_option maxHeartbeats 4000000
namespace Go.Proofs.YtfiiffnbggnkfaaDoor
open Go.RowKit Go.Rent Go.Tp Go.Conc
theorem c86 (V:BkV) (B:Bk) (hG:Good B) (p:Int) (hp:0<=p/\p<=100) (w:wD) (hs:aB w V B) (hpc:V.pa=none->V.pc=0):
    cF tP 49 #[V.val B,iN qi p] w fun e w'=> ∃V' O,e= rT (V'.val B)/\bI w' w.heap.size V' (bQ B p) O/\bX w.heap.size w w':=by
  obtain⟨ta,la,pa,tc,lc,pc⟩:=V;have hl1:=hG.fine.links;have ht1:=hG.fine.towns;have hp1:=hG.fine.pairs;have Hs:=lH hs;have HG:=lH hG;have Hpc:=lH hpc;have Hp:=lH hp;clear hs hG hpc hp;go_enter Tryd.func49,Tryd.ntmps49
  go_wp2_with fail
  generalize hWd:((w.alloc (cL #[iN qi B.hours,sL ta B.towns.length tc,sL la B.links.length lc,sL pa B.pairs.length pc] 81)).alloc (cL #[iN qi p] 3)).alloc (cL #[iN qi 0,sL none 0 0,sL none 0 0,sL none 0 0] 81)=W;have HBW:Hid (bX w.heap.size w W):=lH (by subst hWd;exact(((bR _ _).alloc (nR _) _).alloc (by simp) _).alloc (by simp;omega) _);have HZ:Hid (W.heap.size=w.heap.size+3):=lH (by subst hWd;simp);have HA:Hid (dW W w.heap.size (iN qi B.hours) (sL ta B.towns.length tc) (sL la B.links.length lc) (sL pa B.pairs.length pc)):=lH (by subst hWd;exact⟨by simp;omega,by go_simp,by go_simp,by go_simp,by go_simp,by go_simp,by go_simp,by go_simp,by go_simp⟩);have HR:Hid (dW W (w.heap.size+1+1) (iN qi 0) (sL none 0 0) (sL none 0 0) (sL none 0 0)):=lH (by subst hWd;exact⟨by simp,by go_simp,by go_simp,by go_simp,by go_simp,by go_simp,by go_simp,by go_simp,by go_simp⟩);have HPB:Hid (W.cell? ⟨w.heap.size+1,0,none⟩=some (iN qi p)):=lH (by subst hWd;go_simp);clear hWd;refine(c91 ⟨ta,la,pa,tc,lc,pc⟩ B HG.out W (Hs.out.below HBW.out (nR _)) Hpc.out).mono ?_;rintro e w1 ⟨V1,O,rfl,hO,hb1⟩;obtain⟨va,vl,vp,vtc,vlc,vpc⟩:=V1;have hr1:=HA.out.below hb1 HA.out.z;obtain⟨z1,a0,a1,a2,a3,g0,g1,g2,g3⟩:=hr1;have HO:=lH hO;have Hb1:=lH hb1;clear hO hb1
  go_wp2_with fail
  generalize hW1:(((w1.setCell ⟨w.heap.size,0,none⟩ (iN qi B.hours)).setCell ⟨w.heap.size,1,none⟩ (sL va B.towns.length vtc)).setCell ⟨w.heap.size,2,none⟩ (sL vl B.links.length vlc)).setCell ⟨w.heap.size,3,none⟩ (sL vp B.pairs.length vpc)=W1;have HO1:Hid (bI W1 W.heap.size ⟨va,vl,vp,vtc,vlc,vpc⟩ B O):=lH (by
    have hz:=HZ.out;subst hW1;exact(((HO.out.far _ (by omega)).far _ (by omega)).far _ (by omega)).far _ (by omega))
  have HB1:Hid (bX w.heap.size w W1):=lH (by
    subst hW1;exact((((HBW.out.trans (Hb1.out.mono HBW.out.size)).setCell (p:=⟨w.heap.size,0,none⟩) (nR _) _).setCell (p:=⟨w.heap.size,1,none⟩) (nR _) _).setCell (p:=⟨w.heap.size,2,none⟩) (nR _) _).setCell (p:=⟨w.heap.size,3,none⟩) (nR _) _)
  have HS1:Hid (W.heap.size<=W1.heap.size):=lH (by subst hW1;simpa using Hb1.out.size);have HX:Hid (dW W1 w.heap.size (iN qi B.hours) (sL va B.towns.length vtc) (sL vl B.links.length vlc) (sL vp B.pairs.length vpc)):=lH (by
    subst hW1;refine⟨by simp;exact z1, ?_, ?_, ?_, ?_,by simp only[World.frozen?_setCell];exact g0,by simp only[World.frozen?_setCell];exact g1,by simp only[World.frozen?_setCell];exact g2,by simp only[World.frozen?_setCell];exact g3⟩
    · rw[wO _ _ _ _ (by intro e;cases e),wO _ _ _ _ (by intro e;cases e),wO _ _ _ _ (by intro e;cases e)]
      exact World.cell?_setCell_same _ _ _ a0
    · rw[wO _ _ _ _ (by intro e;cases e),wO _ _ _ _ (by intro e;cases e)]
      refine World.cell?_setCell_same _ _ _ (?_: _=some (sL ta B.towns.length tc));rw[wO _ _ _ _ (by intro e;cases e)];exact a1
    · rw[wO _ _ _ _ (by intro e;cases e)]
      refine World.cell?_setCell_same _ _ _ (?_: _=some (sL la B.links.length lc));rw[wO _ _ _ _ (by intro e;cases e),wO _ _ _ _ (by intro e;cases e)];exact a2
    · refine World.cell?_setCell_same _ _ _ (?_: _=some (sL pa B.pairs.length pc))
      rw[wO _ _ _ _ (by intro e;cases e),wO _ _ _ _ (by intro e;cases e),wO _ _ _ _ (by intro e;cases e)];exact a3)
  have HPc:Hid (W1.cell? ⟨w.heap.size+1,0,none⟩=some (iN qi p)):=lH (by
    have hne:w.heap.size≠w.heap.size+1:=by omega
    subst hW1;rw[wF _ _ _ _ hne,wF _ _ _ _ hne,wF _ _ _ _ hne,wF _ _ _ _ hne];exact aoF Hb1.out HPB.out (nR _))
  have HR1:Hid (dW W1 (w.heap.size+1+1) (iN qi 0) (sL none 0 0) (sL none 0 0) (sL none 0 0)):=lH (by
    have hne:w.heap.size≠w.heap.size+1+1:=by omega
    subst hW1;exact(((((HR.out.below Hb1.out HR.out.z).other hne).other hne).other hne).other hne))
  have hnil:vp=none->vpc=0:=HO.out.pc;clear hW1 a0 a1 a2 a3 g0 g1 g2 g3 z1
  go_loopw [17] (fun i wr=> ∃(k:Nat) (B':Bk),k<=B.pairs.length/\i= iN qi (k:Int)/\bI wr W.heap.size ⟨va,vl,vp,vtc,vlc,vpc⟩ B' O/\Gr B B' p k 0/\bX W.heap.size W1 wr) (fun i _=>B.pairs.length-(intOf i).toNat)
  case atStart=>exact⟨0,B,Nat.zero_le _,rfl,HO1.out,Gr.start B p,bR _ _⟩
  case round=>
    obtain⟨k,B',hk,rfl,hO',hg,hb⟩:=hrel;have HO':=lH hO';have Hg:=lH hg;have Hb:=lH hb;clear hO' hg hb;have hz:=HZ.out;have b1:=ak Hb.out;have x0:=(b1.1 w.heap.size 0 (by omega)).trans HX.out.c0;have x1:=(b1.1 w.heap.size 1 (by omega)).trans HX.out.c1;have x2:=(b1.1 w.heap.size 2 (by omega)).trans HX.out.c2;have x3:=(b1.1 w.heap.size 3 (by omega)).trans HX.out.c3;have y0:=(b1.1 (w.heap.size+1) 0 (by omega)).trans HPc.out;clear b1;by_cases hlt:k<B.pairs.length
    · have hq:B.pairs[k]? =some B.pairs[k]:=lG hlt
      obtain⟨q',hq',e1,e2,e3,_⟩:=Hg.out.at_ k _ hq;obtain⟨l0,l1,sc,l2⟩:=HO'.out.pairs k q' hq';have hpa:=HO'.out.pa k q' hq';simp only at hpa;have hcl:=HG.out.fine.calls k _ hq;rw[e1] at l0;rw[e2] at l1;rw[e3] at l2;have hcb:=(HO'.out.free k q' hq').1;have Hq:=lH hq;have Hcb:=lH hcb;have Hcl:=lH hcl;generalize B.pairs[k]=q at *;clear hq hq' e1 e2 e3 hcb hcl;have hlt':(k:Int)<(B.pairs.length:Int):=by omega
      have hk0:(0 :Int)<=(k:Int):=Int.natCast_nonneg _;have hqs:q.calls.length<=3:=by have:=Hcl.out.1;have:=HG.out.fine.hours;omega
      subst hpa
      go_wp2_with fail
      have HW3:Hid (bI (wr.alloc (cL #[iN qi q.one,iN qi q.two,sL (some ⟨O.cb k,0,none⟩) q.calls.length sc] 68)) W.heap.size ⟨va,vl,some ⟨O.pb,0,none⟩,vtc,vlc,vpc⟩ B' O):=lH (HO'.out.below ((bR _ _).alloc (nR _) _));have HB3:Hid (bX W.heap.size W1 (wr.alloc (cL #[iN qi q.one,iN qi q.two,sL (some ⟨O.cb k,0,none⟩) q.calls.length sc] 68))):=lH (Hb.out.alloc (Nat.le_trans HS1.out Hb.out.size) _);have h7:(wr.alloc (cL #[iN qi q.one,iN qi q.two,sL (some ⟨O.cb k,0,none⟩) q.calls.length sc] 68)).cell? ⟨wr.heap.size,2,none⟩=some (sL (some ⟨O.cb k,0,none⟩) q.calls.length sc):=by go_simp
      have H7:=lH h7;clear h7;generalize wr.alloc (cL #[iN qi q.one,iN qi q.two,sL (some ⟨O.cb k,0,none⟩) q.calls.length sc] 68)=W4 at *;have hb7:O.cb k≠wr.heap.size:=by have:=Hcb.out;omega
      have hbm:W.heap.size<=wr.heap.size:=Nat.le_trans HS1.out Hb.out.size;generalize wr.heap.size=b7 at *
      go_loopw [24] (fun i wr=> ∃(h:Nat) (B2:Bk),h<=q.calls.length/\i= iN qi (h:Int)/\bI wr W.heap.size ⟨va,vl,some ⟨O.pb,0,none⟩,vtc,vlc,vpc⟩ B2 O/\Gr B B2 p k h/\bX W.heap.size W1 wr/\wr.cell? ⟨b7,2,none⟩=some (sL (some ⟨O.cb k,0,none⟩) q.calls.length sc)) (fun i _=>q.calls.length-(intOf i).toNat)
      case atStart=>exact⟨0,B',Nat.zero_le _,rfl,HW3.out,Hg.out,HB3.out,H7.out⟩
      case round=>
        obtain⟨h,B2,hh,rfl,hO2,hg2,hb2,i7⟩:=hrel;have HO2:=lH hO2;have Hg2:=lH hg2;have Hb2:=lH hb2;clear hO2 hg2 hb2;have y2:=((ak Hb2.out).1 (w.heap.size+1) 0 (by omega)).trans HPc.out;by_cases hlh:h<q.calls.length
        · have hx:q.calls[h]? =some q.calls[h]:=lG hlh
          obtain⟨q2,hq2,f1,f2⟩:=Hg2.out.pair Hq.out hx;obtain⟨c0,c1⟩:=HO2.out.calls k q2 h _ hq2 f2;have hfr:=(HO2.out.free k q2 hq2).2;have fr0:=hfr (h*2);have fr1:=hfr (h*2+1);have hxb:=Hcl.out.2 h _ hx;have Hx:=lH hx;have Hq2:=lH (And.intro hq2 f1);generalize q.calls[h]=x at *;clear hx hq2 f1 f2 hfr;have hlh':(h:Int)<(q.calls.length:Int):=by omega
          have hh0:(0 :Int)<=(h:Int):=Int.natCast_nonneg _;have hx1:0<=x.1/\x.1<=1000:=by omega
          have hx2:0<=x.2/\x.2<=1000:=by omega
          go_wp2_with fail
          generalize hWd:wr.alloc (cL #[iN qi x.1,iN qi x.2] 33)=W5;have hbA:bX wr.heap.size wr W5:=by subst hWd;exact(bR _ _).alloc (nR _) _
          have k90:W5.cell? ⟨wr.heap.size,0,none⟩=some (iN qi x.1):=by subst hWd;go_simp
          have k91:W5.cell? ⟨wr.heap.size,1,none⟩=some (iN qi x.2):=by subst hWd;go_simp
          have k7:=aoF hbA i7 (nR _);have kp:=aoF hbA y2 (nR _);have kc0:=aoF hbA c0 (nR _);have kc1:=aoF hbA c1 (nR _);have hz5:=World.block_lt_of_cell? wr _ c0;have kf0:W5.frozen? ⟨O.cb k,h*2,none⟩=false:=by rw[(ak hbA).2 _ _ hz5];exact fr0
          have kf1:W5.frozen? ⟨O.cb k,h*2+1,none⟩=false:=by rw[(ak hbA).2 _ _ hz5];exact fr1
          have HbA:=lH hbA;have H1:Hid (cF tP 72 #[iN qi x.1,pN (some ⟨w.heap.size+1,0,none⟩)] W5.drew fun e w'=>e= rT (iN qi (upC x.1 p))/\w'=W5.drew):=lH (c109 x.1 p _ _ kp hx1 Hp.out);have H2:Hid (cF tP 72 #[iN qi x.2,pN (some ⟨w.heap.size+1,0,none⟩)] W5.drew fun e w'=>e= rT (iN qi (upC x.2 p))/\w'=W5.drew):=lH (c109 x.2 p _ _ kp hx2 Hp.out);have hcbn:O.cb k≠wr.heap.size:=by simp only at hz5;omega
          clear hWd hbA i7 y2 c0 c1 fr0 fr1
          go_region_held3 (fun w'=>w'.cell? ⟨b7,2,none⟩=some (sL (some ⟨O.cb k,0,none⟩) q.calls.length sc)/\w'.cell? ⟨wr.heap.size,0,none⟩=some (iN qi x.1)/\w'.cell? ⟨wr.heap.size,1,none⟩=some (iN qi x.2))
            (first
              |exact⟨k7,k90,k91⟩
              | (refine⟨?_, ?_, ?_⟩
                 · change World.cell? (World.setCell (World.setCell W5 _ _) _ _) _=_;rw[wF _ _ _ _ hb7,wF _ _ _ _ hb7];exact k7
                 · change World.cell? (World.setCell (World.setCell W5 _ _) _ _) _=_;rw[wF _ _ _ _ hcbn,wF _ _ _ _ hcbn];exact k90
                 · change World.cell? (World.setCell (World.setCell W5 _ _) _ _) _=_;rw[wF _ _ _ _ hcbn,wF _ _ _ _ hcbn];exact k91))
            (first
              | (go_simp;go_at_call 72;(with_reducible refine H1.out.mono ?_);rintro e w' ⟨rfl,rfl⟩)
              | (go_simp;go_at_call 72;(with_reducible refine H2.out.mono ?_);rintro e w' ⟨rfl,rfl⟩))
          have HFin:Hid (bI (((W5.setCell ⟨O.cb k,h*2,none⟩ (iN qi (upC x.1 p))).setCell ⟨O.cb k,h*2+1,none⟩ (iN qi (upC x.2 p))).drew) W.heap.size ⟨va,vl,some ⟨O.pb,0,none⟩,vtc,vlc,vpc⟩ (fD B2 k h (upB p x)) O/\bX W.heap.size W1 (((W5.setCell ⟨O.cb k,h*2,none⟩ (iN qi (upC x.1 p))).setCell ⟨O.cb k,h*2+1,none⟩ (iN qi (upC x.2 p))).drew)/\
              (((W5.setCell ⟨O.cb k,h*2,none⟩ (iN qi (upC x.1 p))).setCell ⟨O.cb k,h*2+1,none⟩ (iN qi (upC x.2 p))).drew).cell? ⟨b7,2,none⟩=some (sL (some ⟨O.cb k,0,none⟩) q.calls.length sc)):=lH (by
            refine⟨((HO2.out.below HbA.out).store Hq2.out.1 (by have:=Hq2.out.2;omega) (upB p x)).below (bR _ _).drew, ?_, ?_⟩
            · exact(((Hb2.out.trans (HbA.out.mono (Nat.le_trans HS1.out Hb2.out.size))).setCell (p:=⟨O.cb k,h*2,none⟩) Hcb.out.2 _).setCell (p:=⟨O.cb k,h*2+1,none⟩) Hcb.out.2 _).drew
            · change World.cell? (World.setCell (World.setCell W5 _ _) _ _) _=_
              rw[wF _ _ _ _ hb7,wF _ _ _ _ hb7];exact k7)
          go_wp2;go_roundw
          case rel=>exact⟨h+1,_,by omega,by go_num,HFin.out.1,Hg2.out.step Hq.out Hx.out,HFin.out.2.1,HFin.out.2.2⟩
          case measure=>simp[intOf];omega
        · have hhe:h=q.calls.length:=by omega
          go_wp2;go_roundw
          case rel=>exact⟨k+1,B2,by omega,by go_num,HO2.out,Hg2.out.next Hq.out (by omega),Hb2.out⟩
          case measure=>simp[intOf];omega
    · have hke:k=B.pairs.length:=by omega
      have hgo:B'=bQ B p:=Hg.out.all (by omega);subst hgo;have hb':=ak Hb.out;have r0:=(hb'.1 (w.heap.size+1+1) 0 (by omega)).trans HR1.out.c0;have r1:=(hb'.1 (w.heap.size+1+1) 1 (by omega)).trans HR1.out.c1;have r2:=(hb'.1 (w.heap.size+1+1) 2 (by omega)).trans HR1.out.c2;have r3:=(hb'.1 (w.heap.size+1+1) 3 (by omega)).trans HR1.out.c3;have g0:=(hb'.2 (w.heap.size+1+1) 0 (by omega)).trans HR1.out.f0;have g1:=(hb'.2 (w.heap.size+1+1) 1 (by omega)).trans HR1.out.f1;have g2:=(hb'.2 (w.heap.size+1+1) 2 (by omega)).trans HR1.out.f2;have g3:=(hb'.2 (w.heap.size+1+1) 3 (by omega)).trans HR1.out.f3;clear hb';go_wp2;have n2:w.heap.size+1+1<W.heap.size:=by omega
      have n3:w.heap.size<=w.heap.size+1+1:=by omega
      have hlow: ∀u n,bI u W.heap.size ⟨va,vl,vp,vtc,vlc,vpc⟩ (bQ B p) O->n<=W.heap.size->bI u n ⟨va,vl,vp,vtc,vlc,vpc⟩ (bQ B p) O:=fun u n h hn=>⟨h.ta,h.la,h.pa,h.pc,h.rp,h.tc,h.towns,h.links,h.steps,h.pairs,h.calls,fun i q hq=>⟨⟨(h.free i q hq).1.1,Nat.le_trans hn (h.free i q hq).1.2⟩,(h.free i q hq).2⟩,h.dis,⟨Nat.le_trans hn h.lo.1,Nat.le_trans hn h.lo.2.1,Nat.le_trans hn h.lo.2.2.1,fun i L hL=>Nat.le_trans hn (h.lo.2.2.2 i L hL)⟩⟩;refine bodyPost_ret (v:= .agg #[iN qi B.hours,sL va B.towns.length vtc,sL vl B.links.length vlc,sL vp B.pairs.length vpc]) (by simp[results,Tryd.results49,go_sem,r0,r1,r2,r3]) rfl
        ⟨⟨va,vl,vp,vtc,vlc,vpc⟩,O,rfl,hlow _ _ ((((HO'.out.far _ n2).far _ n2).far _ n2).far _ n2) (by omega), ?_⟩
      exact((((HB1.out.trans (Hb.out.mono (by have:=HBW.out.size;omega))).setCell (p:=⟨w.heap.size+1+1,0,none⟩) n3 _).setCell (p:=⟨w.heap.size+1+1,1,none⟩) n3 _).setCell (p:=⟨w.heap.size+1+1,2,none⟩) n3 _).setCell (p:=⟨w.heap.size+1+1,3,none⟩) n3 _
def iD (B:Bk) (i h:Nat):Int×Int:=((B.pairs[i]?).bind (·.calls[h]?)).getD (0,0)
def nT (x:Int×Int) (n:Int):Int×Int:=(x.1+n,x.2+n)
def gtr (i:Nat) (n:Int):List Int->Bk->Bk×Bool
 | [],B=>(B,true)
 |h::l,B=>if dw (nT (iD B i h.toNat) n) then gtr i n l (fD B i h.toNat (nT (iD B i h.toNat) n)) else (B,false)
structure Shape (B B':Bk) (i L:Nat):Prop where
 hours:B'.hours=B.hours
 towns:B'.towns=B.towns
 links:B'.links=B.links
 len:B'.pairs.length=B.pairs.length
 pair: ∃q,B'.pairs[i]? =some q/\q.calls.length=L/\ ∀(m:Nat) (x:Int×Int),q.calls[m]? =some x->dw x=true
theorem Shape.step {B B':Bk} {i L h:Nat} (s:Shape B B' i L) {y:Int×Int} (hy:dw y=true):Shape B (fD B' i h y) i L:=by
 obtain⟨q,hq,hl,hb⟩:=s.pair;have hlen:(fD B' i h y).pairs.length=B'.pairs.length:=by show (List.modify _ _ _).length=_;rw[List.length_modify]
 have hi:i<(fD B' i h y).pairs.length:=by rw[hlen];exact(List.getElem?_eq_some_iff.1 hq).1
 obtain⟨q3,e0,e1,e2,e3,e4⟩:=mO (lG hi);rw[hq] at e0
 cases e0
 refine⟨s.hours,s.towns,s.links,hlen.trans s.len,_,lG hi,e3.trans hl,fun m x hx=> ?_⟩;rw[e4 m] at hx
 split at hx
 ·cases hx;exact hy
 ·exact hb m x hx
theorem Shape.band {B B':Bk} {i L h:Nat} (s:Shape B B' i L) (hh:h<L): ∃q,B'.pairs[i]? =some q/\q.calls.length=L/\q.calls[h]? =some (iD B' i h)/\(0<=(iD B' i h).1/\(iD B' i h).1<=(iD B' i h).2/\(iD B' i h).2<=5):=by
 obtain⟨q,hq,hl,hb⟩:=s.pair;have hx:q.calls[h]? =some q.calls[h]:=lG (by omega);have e:iD B' i h=q.calls[h]:=by unfold iD;rw[hq,Option.bind_some,hx];rfl
 have:=hb h _ hx;rw[<-e] at hx this;refine⟨q,hq,hl,hx, ?_⟩;simpa[dw] using this
theorem aaE {i:Nat} {n:Int} {l:List Int} {k:Nat} {B:Bk} (hk:k<l.length) (h:dw (nT (iD B i (trk l k).toNat) n)=true):gtr i n (l.drop k) B=gtr i n (l.drop (k+1)) (fD B i (trk l k).toNat (nT (iD B i (trk l k).toNat) n)):=by
 have t1:trk l k=l[k]:=by unfold trk;rw[lD,lG hk];rfl
 rw[t1] at h ⊢;rw[List.drop_eq_getElem_cons hk,gtr,if_pos h]
theorem aaF {i:Nat} {n:Int} {l:List Int} {k:Nat} {B:Bk} (hk:k<l.length) (h: ¬dw (nT (iD B i (trk l k).toNat) n)=true):(gtr i n (l.drop k) B).2=false:=by
 have t1:trk l k=l[k]:=by unfold trk;rw[lD,lG hk];rfl
 rw[t1] at h;rw[List.drop_eq_getElem_cons hk,gtr,if_neg h]
theorem aaG {i:Nat} {n:Int} {l:List Int} {k:Nat} {B:Bk} (hk:l.length<=k):gtr i n (l.drop k) B=(B,true):=by rw[List.drop_of_length_le hk];rfl
theorem c84 (V:BkV) (B:Bk) (hG:Good B) (i:Nat) (hi:i<B.pairs.length) (n:Int) (hn:0<=n/\n<=1000) (l:List Int) (la0:Option Addr) (lc0:Nat) (w:wD) (hs:aB w V B) (hpc:V.pa=none->V.pc=0) (hl:SlI w la0 l) (hll:l.length<=1000) (hlh: ∀x∈l,0<=x/\x<B.hours):
  cF tP 47 #[V.val B,iN qi (i:Int),iN qi n,sL la0 l.length lc0] w fun e w'=> ∃V' O,e= rT (.tuple #[V'.val B,.bool (gtr i n l B).2])/\((gtr i n l B).2=true->bI w' w.heap.size V' (gtr i n l B).1 O)/\bX w.heap.size w w':=by
 obtain⟨ta,la,pa,tc,lc,pc⟩:=V;have hl1:=hG.fine.links;have ht1:=hG.fine.towns;have hp1:=hG.fine.pairs;have hh1:=hG.fine.hours;have Hs:=lH hs;have HG:=lH hG;have Hpc:=lH hpc;have Hl:=lH hl;have Hlh:=lH hlh;clear hs hG hpc hl hlh;go_enter Tryd.func47,Tryd.ntmps47
 go_wp2_with fail
 generalize hWd:(w.alloc (cL #[iN qi B.hours,sL ta B.towns.length tc,sL la B.links.length lc,sL pa B.pairs.length pc] 81)).alloc (cL #[iN qi 0,sL none 0 0,sL none 0 0,sL none 0 0] 81)=W;have HBW:Hid (bX w.heap.size w W):=lH (by subst hWd;exact((bR _ _).alloc (nR _) _).alloc (by simp) _);have HZ:Hid (W.heap.size=w.heap.size+2):=lH (by subst hWd;simp);have HA:Hid (dW W w.heap.size (iN qi B.hours) (sL ta B.towns.length tc) (sL la B.links.length lc) (sL pa B.pairs.length pc)):=lH (by subst hWd;exact⟨by simp;omega,by go_simp,by go_simp,by go_simp,by go_simp,by go_simp,by go_simp,by go_simp,by go_simp⟩);have HR:Hid (dW W (w.heap.size+1) (iN qi 0) (sL none 0 0) (sL none 0 0) (sL none 0 0)):=lH (by subst hWd;exact⟨by simp,by go_simp,by go_simp,by go_simp,by go_simp,by go_simp,by go_simp,by go_simp,by go_simp⟩);clear hWd;refine(c91 ⟨ta,la,pa,tc,lc,pc⟩ B HG.out W (Hs.out.below HBW.out (nR _)) Hpc.out).mono ?_;rintro e w1 ⟨V1,O,rfl,hO,hb1⟩;obtain⟨va,vl,vp,vtc,vlc,vpc⟩:=V1;have hr1:=HA.out.below hb1 HA.out.z;obtain⟨z1,a0,a1,a2,a3,g0,g1,g2,g3⟩:=hr1;have HO:=lH hO;have Hb1:=lH hb1;clear hO hb1
 go_wp2_with fail
 generalize hW1:(((w1.setCell ⟨w.heap.size,0,none⟩ (iN qi B.hours)).setCell ⟨w.heap.size,1,none⟩ (sL va B.towns.length vtc)).setCell ⟨w.heap.size,2,none⟩ (sL vl B.links.length vlc)).setCell ⟨w.heap.size,3,none⟩ (sL vp B.pairs.length vpc)=W1;have HO1:Hid (bI W1 W.heap.size ⟨va,vl,vp,vtc,vlc,vpc⟩ B O):=lH (by
  have hz:=HZ.out;subst hW1;exact(((HO.out.far _ (by omega)).far _ (by omega)).far _ (by omega)).far _ (by omega))
 have HB1:Hid (bX w.heap.size w W1):=lH (by
  subst hW1;exact((((HBW.out.trans (Hb1.out.mono HBW.out.size)).setCell (p:=⟨w.heap.size,0,none⟩) (nR _) _).setCell (p:=⟨w.heap.size,1,none⟩) (nR _) _).setCell (p:=⟨w.heap.size,2,none⟩) (nR _) _).setCell (p:=⟨w.heap.size,3,none⟩) (nR _) _)
 have HS1:Hid (W.heap.size<=W1.heap.size):=lH (by subst hW1;simpa using Hb1.out.size);have HX:Hid (dW W1 w.heap.size (iN qi B.hours) (sL va B.towns.length vtc) (sL vl B.links.length vlc) (sL vp B.pairs.length vpc)):=lH (by
  subst hW1;refine⟨by simp;exact z1, ?_, ?_, ?_, ?_,by simp only[World.frozen?_setCell];exact g0,by simp only[World.frozen?_setCell];exact g1,by simp only[World.frozen?_setCell];exact g2,by simp only[World.frozen?_setCell];exact g3⟩
  ·rw[wO _ _ _ _ (by intro e;cases e),wO _ _ _ _ (by intro e;cases e),wO _ _ _ _ (by intro e;cases e)];exact World.cell?_setCell_same _ _ _ a0
  ·rw[wO _ _ _ _ (by intro e;cases e),wO _ _ _ _ (by intro e;cases e)];refine World.cell?_setCell_same _ _ _ (?_: _=some (sL ta B.towns.length tc));rw[wO _ _ _ _ (by intro e;cases e)];exact a1
  ·rw[wO _ _ _ _ (by intro e;cases e)];refine World.cell?_setCell_same _ _ _ (?_: _=some (sL la B.links.length lc));rw[wO _ _ _ _ (by intro e;cases e),wO _ _ _ _ (by intro e;cases e)];exact a2
  ·refine World.cell?_setCell_same _ _ _ (?_: _=some (sL pa B.pairs.length pc));rw[wO _ _ _ _ (by intro e;cases e),wO _ _ _ _ (by intro e;cases e),wO _ _ _ _ (by intro e;cases e)];exact a3)
 have HR1:Hid (dW W1 (w.heap.size+1) (iN qi 0) (sL none 0 0) (sL none 0 0) (sL none 0 0)):=lH (by
  have hne:w.heap.size≠w.heap.size+1:=by omega
  subst hW1;exact(((((HR.out.below Hb1.out HR.out.z).other hne).other hne).other hne).other hne))
 have hlow:Hid (∀u B2,bI u W.heap.size ⟨va,vl,vp,vtc,vlc,vpc⟩ B2 O->bI u w.heap.size ⟨va,vl,vp,vtc,vlc,vpc⟩ B2 O):=lH fun u B2 h=>
  have hn:=HBW.out.size
  ⟨h.ta,h.la,h.pa,h.pc,h.rp,h.tc,h.towns,h.links,h.steps,h.pairs,h.calls,fun i q hq=>⟨⟨(h.free i q hq).1.1,Nat.le_trans hn (h.free i q hq).1.2⟩,(h.free i q hq).2⟩,h.dis,⟨Nat.le_trans hn h.lo.1,Nat.le_trans hn h.lo.2.1,Nat.le_trans hn h.lo.2.2.1,fun i L hL=>Nat.le_trans hn (h.lo.2.2.2 i L hL)⟩⟩
 have hp0:B.pairs[i]? =some B.pairs[i]:=lG hi;have HSh:Hid (Shape B B i B.hours.toNat):=lH ⟨rfl,rfl,rfl,rfl,_,hp0,by have:=(HG.out.fine.calls i _ hp0).1;omega,fun m x hx=>by
  have:=(HG.out.fine.calls i _ hp0).2 m x hx;simpa[dw] using this⟩
 clear hW1 a0 a1 a2 a3 g0 g1 g2 g3 z1 hp0
 go_loopw [17] (fun j wr=> ∃(k:Nat) (B':Bk),k<=l.length/\j= iN qi (k:Int)/\bI wr W.heap.size ⟨va,vl,vp,vtc,vlc,vpc⟩ B' O/\Shape B B' i B.hours.toNat/\gtr i n l B=gtr i n (l.drop k) B'/\bX W.heap.size W1 wr) (fun j _=>l.length-(intOf j).toNat)
 case atStart=>exact⟨0,B,Nat.zero_le _,rfl,HO1.out,HSh.out,rfl,bR _ _⟩
 case round=>
  obtain⟨k,B',hk,rfl,hO',hsh,hgt,hb⟩:=hrel;have HO':=lH hO';have Hsh:=lH hsh;have Hgt:=lH hgt;have Hb:=lH hb;clear hO' hsh hgt hb;have hz:=HZ.out;have b1:=ak Hb.out;have x0:=(b1.1 w.heap.size 0 (by omega)).trans HX.out.c0;have x1:=(b1.1 w.heap.size 1 (by omega)).trans HX.out.c1;have x2:=(b1.1 w.heap.size 2 (by omega)).trans HX.out.c2;have x3:=(b1.1 w.heap.size 3 (by omega)).trans HX.out.c3;have r0:=(b1.1 (w.heap.size+1) 0 (by omega)).trans HR1.out.c0;have r1:=(b1.1 (w.heap.size+1) 1 (by omega)).trans HR1.out.c1;have r2:=(b1.1 (w.heap.size+1) 2 (by omega)).trans HR1.out.c2;have r3:=(b1.1 (w.heap.size+1) 3 (by omega)).trans HR1.out.c3;have g0:=(b1.2 (w.heap.size+1) 0 (by omega)).trans HR1.out.f0;have g1:=(b1.2 (w.heap.size+1) 1 (by omega)).trans HR1.out.f1;have g2:=(b1.2 (w.heap.size+1) 2 (by omega)).trans HR1.out.f2;have g3:=(b1.2 (w.heap.size+1) 3 (by omega)).trans HR1.out.f3;clear b1;have n2:w.heap.size+1<W.heap.size:=by omega
  have n3:w.heap.size<=w.heap.size+1:=by omega
  have HBr:Hid (bX w.heap.size w wr):=lH (HB1.out.trans (Hb.out.mono (by omega)));by_cases hlt:k<l.length
  ·obtain⟨lb,lo,rfl,hlk⟩:=oL (Hl.out.below HBr.out (nR _)) hlt;have hmem:trk l k∈l:=by
    have t1:trk l k=l[k]:=by unfold trk;rw[lD,lG hlt];rfl
    rw[t1];exact List.getElem_mem hlt
   have hhr:=Hlh.out _ hmem;obtain⟨h,hhe⟩: ∃h:Nat,trk l k=(h:Int):=⟨(trk l k).toNat,by omega⟩;have hhit:=aaE (i:=i) (n:=n) (B:=B') hlt;have hmiss:=aaF (i:=i) (n:=n) (B:=B') hlt;rw[hhe,Int.toNat_natCast] at hhit hmiss;rw[hhe] at hlk hhr;obtain⟨q',hq',hql,hqx,hxb⟩:=Hsh.out.band (h:=h) (by omega);obtain⟨_,_,sc,l2⟩:=HO'.out.pairs i q' hq';have hpa:=HO'.out.pa i q' hq';simp only at hpa;rw[hql] at l2;obtain⟨c0,c1⟩:=HO'.out.calls i q' h _ hq' hqx;have hfr:=(HO'.out.free i q' hq').2;have hcb:=(HO'.out.free i q' hq').1;have fr0:=hfr (h*2);have fr1:=hfr (h*2+1);have Hhit:=lH hhit;have Hmiss:=lH hmiss;have Hq:=lH (And.intro hq' hql);have Hcb:=lH hcb;have hbd:Hid (iD B' i h=((iD B' i h).1,(iD B' i h).2)):=lH rfl;generalize hxx:iD B' i h=x at *;obtain⟨y1,y2⟩:=x;simp only at c0 c1 hxb;clear hmem hhe hhit hmiss hq' hql hqx hfr hcb hxx hbd;subst hpa;have hi':(i:Int)<(B.pairs.length:Int):=by omega
   have hi0:(0 :Int)<=(i:Int):=Int.natCast_nonneg _;have hlt':(k:Int)<(l.length:Int):=by omega
   have hk0:(0 :Int)<=(k:Int):=Int.natCast_nonneg _;have hh0:(0 :Int)<=(h:Int):=Int.natCast_nonneg _;have hhL:(h:Int)<(B.hours.toNat:Int):=by omega
   have w1r:IntKind.wrap qi (y1+n)=y1+n:=IntWalk.i64_in _ (by omega);have w2r:IntKind.wrap qi (y2+n)=y2+n:=IntWalk.i64_in _ (by omega);have HS:Hid (bI (((wr.setCell ⟨O.cb i,h*2,none⟩ (iN qi (y1+n))).setCell ⟨O.cb i,h*2+1,none⟩ (iN qi (y2+n))).drew) W.heap.size ⟨va,vl,some ⟨O.pb,0,none⟩,vtc,vlc,vpc⟩ (fD B' i h (nT (y1,y2) n)) O):=lH ((HO'.out.store Hq.out.1 (by have:=Hq.out.2;omega) (nT (y1,y2) n)).below (bR _ _).drew);have HBS:Hid (bX W.heap.size W1 (((wr.setCell ⟨O.cb i,h*2,none⟩ (iN qi (y1+n))).setCell ⟨O.cb i,h*2+1,none⟩ (iN qi (y2+n))).drew)):=lH ((Hb.out.setCell (p:=⟨O.cb i,h*2,none⟩) Hcb.out.2 _).setCell (p:=⟨O.cb i,h*2+1,none⟩) Hcb.out.2 _).drew
   go_wp2_with fail
   go_region_with (fail)
   all_goals
    generalize hWs:(((wr.setCell ⟨O.cb i,h*2,none⟩ (iN qi (y1+n))).setCell ⟨O.cb i,h*2+1,none⟩ (iN qi (y2+n))).drew)=W6 at *;have d0:W6.cell? ⟨O.cb i,h*2,none⟩=some (iN qi (y1+n)):=by
     subst hWs
     change World.cell? (World.setCell (World.setCell wr _ _) _ _) _=_
     rw[wO _ _ _ _ (by intro e;simp only[Addr.mk.injEq] at e;omega)];exact World.cell?_setCell_same _ _ _ c0
    have d1:W6.cell? ⟨O.cb i,h*2+1,none⟩=some (iN qi (y2+n)):=by
     subst hWs
     change World.cell? (World.setCell (World.setCell wr _ _) _ _) _=_
     refine World.cell?_setCell_same _ _ _ (?_: _=some (iN qi y2));rw[wO _ _ _ _ (by intro e;simp only[Addr.mk.injEq] at e;omega)];exact c1
    have HBx:Hid (∀w7,bX W6.heap.size W6 w7->bX W.heap.size W1 w7):=lH fun w7 h7=>HBS.out.trans (h7.mono (Nat.le_trans HS1.out HBS.out.size));clear hWs c0 c1 fr0 fr1 x0 x1 x2 x3 r0 r1 r2 r3 g0 g1 g2 g3
    go_wp2_with fail
    refine(c90 (y1+n) (y2+n) _).mono ?_;rintro e w7 ⟨rfl,hb7⟩;have HO7:=lH (HS.out.below hb7);have hb7':=HBx.out w7 hb7;have Hb7:=lH hb7';have b1:=ak hb7';have x0:=(b1.1 w.heap.size 0 (by omega)).trans HX.out.c0;have x1:=(b1.1 w.heap.size 1 (by omega)).trans HX.out.c1;have x2:=(b1.1 w.heap.size 2 (by omega)).trans HX.out.c2;have x3:=(b1.1 w.heap.size 3 (by omega)).trans HX.out.c3;have r0:=(b1.1 (w.heap.size+1) 0 (by omega)).trans HR1.out.c0;have r1:=(b1.1 (w.heap.size+1) 1 (by omega)).trans HR1.out.c1;have r2:=(b1.1 (w.heap.size+1) 2 (by omega)).trans HR1.out.c2;have r3:=(b1.1 (w.heap.size+1) 3 (by omega)).trans HR1.out.c3;have g0:=(b1.2 (w.heap.size+1) 0 (by omega)).trans HR1.out.f0;have g1:=(b1.2 (w.heap.size+1) 1 (by omega)).trans HR1.out.f1;have g2:=(b1.2 (w.heap.size+1) 2 (by omega)).trans HR1.out.f2;have g3:=(b1.2 (w.heap.size+1) 3 (by omega)).trans HR1.out.f3;clear b1 hb7 hb7' d0 d1;by_cases hbo:dw (y1+n,y2+n)=true
    ·have HH:=lH (Hgt.out.trans (Hhit.out hbo));have HSt:=lH (Hsh.out.step (h:=h) hbo);rw[hbo];go_wp2;go_roundw
     case rel=>exact⟨k+1,_,by omega,by go_num,HO7.out,HSt.out,HH.out,Hb7.out⟩
     case measure=>simp[intOf];omega
    ·have HM:Hid ((gtr i n l B).2=false):=lH (by rw[Hgt.out];exact Hmiss.out hbo);have hbf:dw (y1+n,y2+n)=false:=by simpa using hbo
     rw[hbf];go_wp2;refine bodyPost_ret (v:= .tuple #[.agg #[iN qi B.hours,sL va B.towns.length vtc,sL vl B.links.length vlc,sL (some ⟨O.pb,0,none⟩) B.pairs.length vpc],.bool false]) (by simp[results,Tryd.results47,go_sem,r0,r1,r2,r3]) rfl
      ⟨⟨va,vl,some ⟨O.pb,0,none⟩,vtc,vlc,vpc⟩,O,by rw[HM.out],fun h=>absurd h (by rw[HM.out];decide), ?_⟩
     exact((((HB1.out.trans (Hb7.out.mono (by omega))).setCell (p:=⟨w.heap.size+1,0,none⟩) n3 _).setCell (p:=⟨w.heap.size+1,1,none⟩) n3 _).setCell (p:=⟨w.heap.size+1,2,none⟩) n3 _).setCell (p:=⟨w.heap.size+1,3,none⟩) n3 _
  ·have hke:k=l.length:=by omega
   have he:=Hgt.out.trans (aaG (by omega));have HE:=lH he;clear he;go_wp2;refine bodyPost_ret (v:= .tuple #[.agg #[iN qi B.hours,sL va B.towns.length vtc,sL vl B.links.length vlc,sL vp B.pairs.length vpc],.bool true]) (by simp[results,Tryd.results47,go_sem,r0,r1,r2,r3]) rfl
    ⟨⟨va,vl,vp,vtc,vlc,vpc⟩,O,by rw[HE.out],fun _=> ?_, ?_⟩
   ·rw[HE.out];exact hlow.out _ _ ((((HO'.out.far _ n2).far _ n2).far _ n2).far _ n2)
   ·exact(((HBr.out.setCell (p:=⟨w.heap.size+1,0,none⟩) n3 _).setCell (p:=⟨w.heap.size+1,1,none⟩) n3 _).setCell (p:=⟨w.heap.size+1,2,none⟩) n3 _).setCell (p:=⟨w.heap.size+1,3,none⟩) n3 _
theorem mP {p q:Prop} (h:p) (k:p->q):q:=k h
def tX (u:wD) (b:Nat):Prop:=(u.cell? ⟨b,0,none⟩=some (iN qi 0)/\u.cell? ⟨b,1,none⟩=some (sL none 0 0)/\u.cell? ⟨b,2,none⟩=some (sL none 0 0)/\u.cell? ⟨b,3,none⟩=some (sL none 0 0))/\
 u.frozen? ⟨b,0,none⟩=false/\u.frozen? ⟨b,1,none⟩=false/\u.frozen? ⟨b,2,none⟩=false/\u.frozen? ⟨b,3,none⟩=false
theorem mQ {W u u':wD} {b:Nat} (hk:jR W u u') (h:tX u b):tX u' b:=by
 obtain⟨_,hc,hf,_⟩:=hk;obtain⟨⟨c0,c1,c2,c3⟩,f0,f1,f2,f3⟩:=h;exact⟨⟨(hc _ _ (by rw[c0];rfl)).trans c0,(hc _ _ (by rw[c1];rfl)).trans c1,(hc _ _ (by rw[c2];rfl)).trans c2,(hc _ _ (by rw[c3];rfl)).trans c3⟩,(hf _ _ (by rw[c0];rfl)).trans f0,(hf _ _ (by rw[c1];rfl)).trans f1,(hf _ _ (by rw[c2];rfl)).trans f2,(hf _ _ (by rw[c3];rfl)).trans f3⟩
theorem kY (u:wD):tX (u.alloc (cL #[iN qi 0,sL none 0 0,sL none 0 0,sL none 0 0] 81)) u.heap.size:=⟨⟨by simp,by simp,by simp,by simp⟩,by simp,by simp,by simp,by simp⟩
theorem mV (u:wD):tX (u.alloc (cL #[iN qi 0,sL none 0 0,sL none 0 0,sL none 0 0] 81)).drew u.heap.size:=kY u
noncomputable def NC:Code:=match Tryd.f20.body with
 |some (.seq _ (.seq c _))=>c
 |_=> .skip
def MrP (v0:Value) (ta la pa:Option Addr) (tc lc pc:Nat) (B:Bk) (i n:Int) (w W:wD) (h':Int) (ta' la' pa':Option Addr) (tc' lc' pc' n1 n2 n3:Nat) (al:Int) (a:Act) (w':wD):Prop:=
 ∃b8,a=⟨#[v0,iN qi i,iN qi n,pN (some ⟨w.heap.size,0,none⟩),ud,ud,iN qi 0,iN qi 0,pN (some ⟨b8,0,none⟩),iN qi al,ud,ud,.tuple #[.agg #[iN qi h',sL ta' n1 tc',sL la' n2 lc',sL pa' n3 pc'],iN qi al],.agg #[iN qi B.hours,sL ta B.towns.length tc,sL la B.links.length lc,sL pa B.pairs.length pc],.agg #[iN qi B.hours,sL ta B.towns.length tc,sL la B.links.length lc,sL pa B.pairs.length pc],iN qi i,.bool true,.bool true,.agg #[iN qi B.hours,sL ta B.towns.length tc,sL la B.links.length lc,sL pa B.pairs.length pc],iN qi n,.bool (bP B n),.bool (bP B n),.tuple #[.agg #[iN qi h',sL ta' n1 tc',sL la' n2 lc',sL pa' n3 pc'],iN qi al],.agg #[iN qi h',sL ta' n1 tc',sL la' n2 lc',sL pa' n3 pc'],iN qi al,ud,ud,ud,ud,ud,ud,ud,ud,ud,ud,ud,ud,ud,ud,ud,ud,ud,ud,ud,ud,ud,ud,ud,ud],[]⟩/\W.heap.size<=b8/\bX W.heap.size W w'/\dW w' b8 (iN qi h') (sL ta' n1 tc') (sL la' n2 lc') (sL pa' n3 pc')
theorem aaH (ta la pa:Option Addr) (tc lc pc:Nat) (B:Bk) (i n:Int) (hi:btw i 0 ((B.pairs.length:Int)-1)=true) (w W:wD) (v0:Value) (hs:aB w ⟨ta,la,pa,tc,lc,pc⟩ B) (hv:Vars w) (HBW:Hid (bX w.heap.size w W))
  (k0:W.cell? ⟨w.heap.size,0,none⟩=some (iN qi B.hours)) (k1:W.cell? ⟨w.heap.size,1,none⟩=some (sL ta B.towns.length tc)) (k2:W.cell? ⟨w.heap.size,2,none⟩=some (sL la B.links.length lc)) (k3:W.cell? ⟨w.heap.size,3,none⟩=some (sL pa B.pairs.length pc))
  (h':Int) (ta' la' pa':Option Addr) (tc' lc' pc' n1 n2 n3:Nat) (al:Int) (hres:bU ⟨ta,la,pa,tc,lc,pc⟩ B (fF B (bP B n))= .tuple #[.agg #[iN qi h',sL ta' n1 tc',sL la' n2 lc',sL pa' n3 pc'],iN qi al]):
  NC.wp tP (Exit.then (MrP v0 ta la pa tc lc pc B i n w W h' ta' la' pa' tc' lc' pc' n1 n2 n3 al) Gone) ⟨#[v0,iN qi i,iN qi n,pN (some ⟨w.heap.size,0,none⟩),ud,ud,iN qi 0,iN qi 0,ud,ud,ud,ud,ud,ud,ud,ud,ud,ud,ud,ud,ud,ud,ud,ud,ud,ud,ud,ud,ud,ud,ud,ud,ud,ud,ud,ud,ud,ud,ud,ud,ud,ud,ud,ud,ud,ud,ud,ud,ud],[]⟩ W:=by
 have Hs:=lH hs;have Hv:=lH hv;have HC:Hid (∀u,bX W.heap.size W u->bX W.heap.size W u/\u.cell? ⟨w.heap.size,0,none⟩=some (iN qi B.hours)/\u.cell? ⟨w.heap.size,1,none⟩=some (sL ta B.towns.length tc)/\u.cell? ⟨w.heap.size,2,none⟩=some (sL la B.links.length lc)/\u.cell? ⟨w.heap.size,3,none⟩=some (sL pa B.pairs.length pc)):=lH fun u h=>
  ⟨h,aoF h k0 (nR _),aoF h k1 (nR _),aoF h k2 (nR _),aoF h k3 (nR _)⟩
 have H0:Hid (∀u,bX W.heap.size W u->cF tP 46 #[.agg #[iN qi B.hours,sL ta B.towns.length tc,sL la B.links.length lc,sL pa B.pairs.length pc],iN qi i] u fun e u'=>e= rT (.bool true)/\jR W u u'):=lH fun u hu=>(c83 ⟨ta,la,pa,tc,lc,pc⟩ B i u Hs.out.np).mono fun _ _ h=>⟨by rw[h.1,hi],keepR hu h.2⟩;have HA:Hid (∀u,bX W.heap.size W u->cF tP 38 #[.agg #[iN qi B.hours,sL ta B.towns.length tc,sL la B.links.length lc,sL pa B.pairs.length pc],iN qi n] u fun e u'=>e= rT (.bool (bP B n))/\jR W u u'):=lH fun u hu=>(Np B.hours _ _ _ n u).mono fun _ _ h=>⟨h.1,keepR hu h.2⟩;have HB:Hid (∀u,bX W.heap.size W u->cF tP 34 #[.agg #[iN qi B.hours,sL ta B.towns.length tc,sL la B.links.length lc,sL pa B.pairs.length pc],.bool (bP B n)] u fun e u'=>e= rT (.tuple #[.agg #[iN qi h',sL ta' n1 tc',sL la' n2 lc',sL pa' n3 pc'],iN qi al])/\jR W u u'):=lH fun u hu=>by
  have hwu:=HBW.out.trans (hu.mono HBW.out.size);refine(c78 ⟨ta,la,pa,tc,lc,pc⟩ B (bP B n) u (Hs.out.below hwu (nR _)) (Hv.out.v2.below hwu (nR _))).mono ?_;rintro e u' ⟨rfl,hb⟩;exact⟨by rw[hres],keepR hu hb⟩
 clear hres hs hv hi;have HD:Hid (bX W.heap.size W W.drew):=lH (bR _ _).drew;have HDA:Hid (∀o,bX W.heap.size W ((W.alloc o).drew)):=lH fun o=>(bM (bR _ _)).drew;simp only[NC,Tryd.f20]
 go_region_held3 (fun w'=>bX W.heap.size W w'/\w'.cell? ⟨w.heap.size,0,none⟩=some (iN qi B.hours)/\w'.cell? ⟨w.heap.size,1,none⟩=some (sL ta B.towns.length tc)/\w'.cell? ⟨w.heap.size,2,none⟩=some (sL la B.links.length lc)/\w'.cell? ⟨w.heap.size,3,none⟩=some (sL pa B.pairs.length pc))
  ((refine HC.out _ ?_;go_split_ands;repeat (first |with_reducible assumption |with_reducible exact bR _ _ |with_reducible refine bM ?_ |with_reducible refine Below.drew ?_ |with_reducible refine Below.setCell ?_ ?_ _ | (focus (simp;done)) | (focus (simp;omega)) | (focus omega))))
  (first
   | (go_simp;go_at_call 46;go_split_ands;(with_reducible refine(H0.out _ ?_).mono ?_);(with_reducible assumption);rintro e w0 ⟨rfl,hk0⟩;have hzz:=hk0.1.out.size;have hbz':=hk0.1.out;(try (refine mP (mQ (b:=W.heap.size) hk0 ?_) ?_;(focus (first |with_reducible assumption |with_reducible exact kY _ |with_reducible exact mV _));intro hz4)))
   | (go_simp;go_at_call 38;go_split_ands;(with_reducible refine(HA.out _ ?_).mono ?_);(with_reducible assumption);rintro e w1 ⟨rfl,hk1⟩;have hzw:=hk1.1.out.size;have hbw':=hk1.1.out;(try (refine mP (mQ (b:=W.heap.size) hk1 ?_) ?_;(focus (first |with_reducible assumption |with_reducible exact kY _ |with_reducible exact mV _));intro hz4));(try (refine mP (mQ (b:=w0.heap.size) hk1 ?_) ?_;(focus (first |with_reducible assumption |with_reducible exact kY _ |with_reducible exact mV _));intro hz4)))
   | (go_simp;go_at_call 34;go_split_ands;(with_reducible refine(HB.out _ ?_).mono ?_);(with_reducible assumption);rintro e w2 ⟨rfl,hk2⟩;have hzv:=hk2.1.out.size;have hbv':=hk2.1.out;(try (refine mP (mQ (b:=W.heap.size) hk2 ?_) ?_;(focus (first |with_reducible assumption |with_reducible exact kY _ |with_reducible exact mV _));intro hz4));(try (refine mP (mQ (b:=w0.heap.size) hk2 ?_) ?_;(focus (first |with_reducible assumption |with_reducible exact kY _ |with_reducible exact mV _));intro hz4));(try (refine mP (mQ (b:=w1.heap.size) hk2 ?_) ?_;(focus (first |with_reducible assumption |with_reducible exact kY _ |with_reducible exact mV _));intro hz4));(try (obtain⟨⟨r0,r1,r2,r3⟩,g0,g1,g2,g3⟩:=hz4))))
 all_goals
  go_split_ands;refine⟨_,rfl, ?_, ?_,EP ?_ ?_ ?_ ?_ ?_ ?_ ?_ ?_⟩
  ·first
    |exact nR _
    |with_reducible assumption
  ·with_reducible assumption
  all_goals first
   | (go_simp;done)
   | (go_simp;refine World.cell?_setCell_same' _ _ _ ?_;go_simp;done)
theorem Good.setCall {B:Bk} (hG:Good B) {i k:Nat} {y:Int×Int} (hy:dw y=true):Good (fD B i k y):=by
 have hlen:(Go.Proofs.YtfiiffnbggnkfaaDoor.fD B i k y).pairs.length=B.pairs.length:=by show (List.modify _ _ _).length=_;rw[List.length_modify]
 have back: ∀(j:Nat) (q:Pr),(Go.Proofs.YtfiiffnbggnkfaaDoor.fD B i k y).pairs[j]? =some q-> ∃p,B.pairs[j]? =some p/\q.one=p.one/\q.two=p.two/\q.calls.length=p.calls.length/\ ∀(m:Nat) (x:Int×Int),q.calls[m]? =some x->x=y\/p.calls[m]? =some x:=fun j q hq=>by
  obtain⟨p,h0,h1,h2,h3,h4⟩:=mO hq;refine⟨p,h0,h1,h2,h3,fun m x hx=> ?_⟩;rw[h4 m] at hx
  split at hx
  ·cases hx;exact .inl rfl
  ·exact .inr hx
 have hyb:0<=y.1/\y.1<=y.2/\y.2<=5:=by simpa[dw] using hy
 refine⟨⟨hG.fine.hours,hG.fine.towns,hG.fine.links,by rw[hlen];exact hG.fine.pairs,fun j hj=> ?_,fun j q hq=> ?_⟩,hG.hours,hG.towns,hG.links,fun j q hq=> ?_,hG.steps⟩
 ·have hj':j<B.pairs.length:=by rw[hlen] at hj;exact hj
  have hq:(Go.Proofs.YtfiiffnbggnkfaaDoor.fD B i k y).pairs[j]? =some (Go.Proofs.YtfiiffnbggnkfaaDoor.fD B i k y).pairs[j]:=lG hj;obtain⟨p,h0,h1,h2,_⟩:=back j _ hq;have:=hG.fine.ends j hj';unfold Bk.pone Bk.ptwo at this ⊢;rw[h0] at this;rw[hq];simp only[Option.map_some,Option.getD_some] at this ⊢;rw[h1,h2];exact this
 ·obtain⟨p,h0,_,_,h3,h4⟩:=back j q hq;have:=hG.fine.calls j p h0;refine⟨by rw[h3];exact this.1,fun m x hx=> ?_⟩
  rcases h4 m x hx with rfl |h
  ·exact hyb
  ·exact this.2 m x h
 ·obtain⟨p,h0,h1,h2,h3,h4⟩:=back j q hq;obtain⟨q1,q2,q3,q4,q5⟩:=hG.pairs j p h0;rw[h1,h2];refine⟨q1,q2,q3,by rw[h3];exact q4, ?_⟩;unfold jc;rw[List.any_eq_false];intro x hx;obtain⟨m,hm⟩:=List.getElem?_of_mem hx
  rcases h4 m x hm with rfl |h
  ·simp[hy]
  ·have:=GY q5 h;simp[dw];omega
theorem Fa (i:Nat) (n:Int): ∀(l:List Int) (B:Bk),Good B->(gtr i n l B).2=true->Good (gtr i n l B).1
 | [],B,h,_=>h
 |y::l,B,h,ho=>by
  unfold gtr at ho ⊢
  split at ho
  ·rename_i hb;rw[if_pos hb];exact Fa i n l _ (h.setCall hb) ho
  ·cases ho
theorem Fb (i:Nat) (n:Int): ∀(l:List Int) (B:Bk),(gtr i n l B).1.hours=B.hours/\(gtr i n l B).1.towns=B.towns/\(gtr i n l B).1.links=B.links/\(gtr i n l B).1.pairs.length=B.pairs.length
 | [],B=>⟨rfl,rfl,rfl,rfl⟩
 |y::l,B=>by
  unfold gtr
  split
  ·obtain⟨h1,h2,h3,h4⟩:=Fb i n l (fD B i y.toNat (nT (iD B i y.toNat) n));exact⟨h1,h2,h3,h4.trans (by show (List.modify _ _ _).length=_;rw[List.length_modify])⟩
  ·exact⟨rfl,rfl,rfl,rfl⟩
theorem Fe {B:Bk} (hG:Good B):Small B:=by
 have h1:=hG.fine.towns;have h2:=hG.fine.links;have h3:=hG.fine.pairs;have h4:=hG.fine.hours;refine⟨by omega,by omega,by omega,fun i L hL=> ?_,fun i p hp=> ?_⟩
 ·obtain⟨_,_,_,q4⟩:=hG.links i L hL;unfold bJ at q4
  cases e:btw (L.steps.length:Int) 1 3 with
  |true=>have:=fK e;omega
  |false=>rw[e] at q4;cases q4
 ·have:=(hG.fine.calls i p hp).1;omega
def nU (B:Bk) (i:Nat) (n:Int):Value:=
 if fF B (bP B n)=0 then (if (gtr i 1 [n] B).2 then .tuple #[iN qi ((aC (gtr i 1 [n] B).1 aT).2-(aC B aT).2),iN qi 0] else .tuple #[iN qi 0,iN qi 1])
 else .tuple #[iN qi 0,iN qi (fF B (bP B n))]
theorem aaI (V:BkV) (B:Bk) (i h:Nat) (w:wD) (hs:aB w V B) (hv:Vars w) (hpc:V.pa=none->V.pc=0) (hG:Good B) (hi:i<B.pairs.length) (hh:(h:Int)<B.hours) (hal:fF B (bP B (h:Int))=0):
  cF tP 20 #[V.val B,iN qi (i:Int),iN qi (h:Int)] w fun e w'=>e= rT (nU B i (h:Int))/\bX w.heap.size w w':=by
 obtain⟨ta,la,pa,tc,lc,pc⟩:=V;have hp1:=hG.fine.pairs;have hbi:btw (i:Int) 0 ((B.pairs.length:Int)-1)=true:=by unfold btw;simp;omega
 have hres:bU ⟨ta,la,pa,tc,lc,pc⟩ B (fF B (bP B (h:Int)))= .tuple #[.agg #[iN qi B.hours,sL ta B.towns.length tc,sL la B.links.length lc,sL pa B.pairs.length pc],iN qi 0]:=by rw[hal];rfl
 have HE:Hid (nU B i (h:Int)=(if (gtr i 1 [(h:Int)] B).2 then .tuple #[iN qi ((aC (gtr i 1 [(h:Int)] B).1 aT).2-(aC B aT).2),iN qi 0] else .tuple #[iN qi 0,iN qi 1])):=lH (by unfold nU;rw[if_pos hal]);have Hs:=lH hs;have Hv:=lH hv;have Hpc:=lH hpc;have HG:=lH hG;have Hres:=lH hres;have Hbi:=lH hbi;have Hh:=lH hh;clear hs hv hpc hG hres hbi hal hh;go_enter Tryd.func20,Tryd.ntmps20
 go_wp2_with fail
 generalize hWd:w.alloc (cL #[iN qi B.hours,sL ta B.towns.length tc,sL la B.links.length lc,sL pa B.pairs.length pc] 26)=W;have HBW:Hid (bX w.heap.size w W):=lH (by subst hWd;exact(bR _ _).alloc (nR _) _);have k0:W.cell? ⟨w.heap.size,0,none⟩=some (iN qi B.hours):=by subst hWd;go_simp
 have k1:W.cell? ⟨w.heap.size,1,none⟩=some (sL ta B.towns.length tc):=by subst hWd;go_simp
 have k2:W.cell? ⟨w.heap.size,2,none⟩=some (sL la B.links.length lc):=by subst hWd;go_simp
 have k3:W.cell? ⟨w.heap.size,3,none⟩=some (sL pa B.pairs.length pc):=by subst hWd;go_simp
 clear hWd;refine Code.wp_mono ?_ (aaH ta la pa tc lc pc B (i:Int) (h:Int) Hbi.out w W _ Hs.out Hv.out HBW k0 k1 k2 k3 B.hours ta la pa tc lc pc B.towns.length B.links.length B.pairs.length 0 Hres.out);rintro e a w' hq
 cases e with
 |normal=>
  obtain⟨b8,rfl,hb8,hbel,hrow⟩:=hq;have HRow:=lH hrow;have HBw':Hid (bX w.heap.size w w'):=lH (HBW.out.trans (hbel.mono HBW.out.size));obtain⟨z8,c0,c1,c2,c3,_,_,_,_⟩:=hrow;clear k0 k1 k2 k3 hb8 hbel
  go_wp2_with fail
  have HBA:Hid (bX w'.heap.size w' (w'.alloc (cL #[iN qi (h:Int)] 3))):=lH ((bR _ _).alloc (nR _) _);have HBB:Hid (bX w.heap.size w (w'.alloc (cL #[iN qi (h:Int)] 3))):=lH (HBw'.out.trans (HBA.out.mono HBw'.out.size));have hsl:SlI (w'.alloc (cL #[iN qi (h:Int)] 3)) (some ⟨w'.heap.size,0,none⟩) [(h:Int)]:=fun j x hx=>by
   match j,hx with
   | 0,hx=>cases hx;exact⟨w'.heap.size,0,rfl,by simp⟩
  refine(c84 ⟨ta,la,pa,tc,lc,pc⟩ B HG.out i hi 1 (by decide) [(h:Int)] (some ⟨w'.heap.size,0,none⟩) 1 _ (Hs.out.below HBB.out (nR _)) Hpc.out hsl (by simp) (fun x hx=>by
   obtain rfl:x=(h:Int):=by simpa using hx
   exact⟨Int.natCast_nonneg _,Hh.out⟩)).mono ?_
  rintro e w2 ⟨⟨va,vl,vp,vtc,vlc,vpc⟩,O,rfl,hO,hb2⟩;have HB2:Hid (bX w'.heap.size w' w2):=lH (HBA.out.trans (hb2.mono HBA.out.size));have d0:=aoF HB2.out c0 (nR _);have d1:=aoF HB2.out c1 (nR _);have d2:=aoF HB2.out c2 (nR _);have d3:=aoF HB2.out c3 (nR _);have HO:=lH hO;have hz2:=HB2.out.size;clear hsl hb2 c0 c1 c2 c3 hO
  cases hok:(gtr i 1 [(h:Int)] B).2 with
  |false=>
   have HE2:Hid (nU B i (h:Int)= .tuple #[iN qi 0,iN qi 1]):=lH (by rw[HE.out,hok];rfl);go_wp2;refine bodyPost_ret (v:= .tuple #[iN qi 0,iN qi 1]) (by simp[results,Tryd.results20,go_sem]) rfl ⟨by rw[HE2.out], ?_⟩;exact(HBw'.out.trans (HB2.out.mono HBw'.out.size)).trans ((bR _ _).alloc (HBw'.out.trans (HB2.out.mono HBw'.out.size)).size _)
  |true=>
   have HE2:Hid (nU B i (h:Int)= .tuple #[iN qi ((aC (gtr i 1 [(h:Int)] B).1 aT).2-(aC B aT).2),iN qi 0]):=lH (by rw[HE.out,hok];rfl);have HO2:=lH (HO.out hok);have HG2:=lH (Fa i 1 [(h:Int)] B HG.out hok);obtain⟨e1,e2,e3,e4⟩:=Fb i 1 [(h:Int)] B;have Hval:Hid (∀V:BkV,V.val (gtr i 1 [(h:Int)] B).1=V.val B):=lH fun V=>by simp only[BkV.val,e1,e2,e3,e4]
   have Hl:Hid ((gtr i 1 [(h:Int)] B).1.links.length=B.links.length):=lH (by rw[e3]);clear e1 e2 e3 e4 hok;generalize (gtr i 1 [(h:Int)] B).1=B2 at *
   go_wp2_with fail
   have hbC:bX w2.heap.size w2 (w2.alloc (cL #[iN qi B.hours,sL va B.towns.length vtc,sL vl B.links.length vlc,sL vp B.pairs.length vpc] 81)):=(bR _ _).alloc (nR _) _;have p0:=aoF hbC d0 (nR _);have p1:=aoF hbC d1 (nR _);have p2:=aoF hbC d2 (nR _);have p3:=aoF hbC d3 (nR _);have q0:(w2.alloc (cL #[iN qi B.hours,sL va B.towns.length vtc,sL vl B.links.length vlc,sL vp B.pairs.length vpc] 81)).cell? ⟨w2.heap.size,0,none⟩=some (iN qi B.hours):=by simp
   have q1:(w2.alloc (cL #[iN qi B.hours,sL va B.towns.length vtc,sL vl B.links.length vlc,sL vp B.pairs.length vpc] 81)).cell? ⟨w2.heap.size,1,none⟩=some (sL va B.towns.length vtc):=by simp
   have q2:(w2.alloc (cL #[iN qi B.hours,sL va B.towns.length vtc,sL vl B.links.length vlc,sL vp B.pairs.length vpc] 81)).cell? ⟨w2.heap.size,2,none⟩=some (sL vl B.links.length vlc):=by simp
   have q3:(w2.alloc (cL #[iN qi B.hours,sL va B.towns.length vtc,sL vl B.links.length vlc,sL vp B.pairs.length vpc] 81)).cell? ⟨w2.heap.size,3,none⟩=some (sL vp B.pairs.length vpc):=by simp
   have HBC:Hid (bX w.heap.size w (w2.alloc (cL #[iN qi B.hours,sL va B.towns.length vtc,sL vl B.links.length vlc,sL vp B.pairs.length vpc] 81))):=lH ((HBw'.out.trans (HB2.out.mono HBw'.out.size)).trans (hbC.mono (HBw'.out.trans (HB2.out.mono HBw'.out.size)).size));have HOC:=lH (HO2.out.below hbC);clear hbC d0 d1 d2 d3;generalize w2.alloc (cL #[iN qi B.hours,sL va B.towns.length vtc,sL vl B.links.length vlc,sL vp B.pairs.length vpc] 81)=W3 at *;generalize w2.heap.size=b10 at *;have HS:Hid (∀u,bX W3.heap.size W3 u->bX W3.heap.size W3 u/\(u.cell? ⟨b10,0,none⟩=some (iN qi B.hours)/\u.cell? ⟨b10,1,none⟩=some (sL va B.towns.length vtc)/\u.cell? ⟨b10,2,none⟩=some (sL vl B.links.length vlc)/\u.cell? ⟨b10,3,none⟩=some (sL vp B.pairs.length vpc))/\(u.cell? ⟨b8,0,none⟩=some (iN qi B.hours)/\u.cell? ⟨b8,1,none⟩=some (sL ta B.towns.length tc)/\u.cell? ⟨b8,2,none⟩=some (sL la B.links.length lc)/\u.cell? ⟨b8,3,none⟩=some (sL pa B.pairs.length pc))):=lH fun u hu=>
    ⟨hu,⟨aoF hu q0 (nR _),aoF hu q1 (nR _),aoF hu q2 (nR _),aoF hu q3 (nR _)⟩,aoF hu p0 (nR _),aoF hu p1 (nR _),aoF hu p2 (nR _),aoF hu p3 (nR _)⟩
   have H1:Hid (∀u,bX W3.heap.size W3 u->cF tP 35 #[.agg #[iN qi B.hours,sL va B.towns.length vtc,sL vl B.links.length vlc,sL vp B.pairs.length vpc],.func (.func 40) #[.agg #[iN qi B.hours,sL va B.towns.length vtc,sL vl B.links.length vlc,sL vp B.pairs.length vpc]] #[]] u fun e u'=> ∃fa fc,e= rT (.agg #[sL (some ⟨fa,0,none⟩) (aC B2 aT).1.length fc,iN qi (aC B2 aT).2])/\Hid (0<=(aC B2 aT).2/\(aC B2 aT).2<=17820)/\bX W3.heap.size W3 u'):=lH fun u hu=>by
    have hO:=HOC.out.below hu;have hb:=qW ⟨va,vl,vp,vtc,vlc,vpc⟩ B2 HG2.out u (hO.inn (Fe HG2.out)) (Hv.out.below (HBC.out.trans (hu.mono HBC.out.size)));rw[Hval.out] at hb;refine hb.mono ?_;rintro e u' ⟨fa,fc,rfl,_,_,g3,_,g5⟩;exact⟨fa,fc,rfl,lH g3,hu.trans (g5.mono hu.size)⟩
   have H2:Hid (∀u,bX W3.heap.size W3 u->cF tP 35 #[.agg #[iN qi B.hours,sL ta B.towns.length tc,sL la B.links.length lc,sL pa B.pairs.length pc],.func (.func 40) #[.agg #[iN qi B.hours,sL ta B.towns.length tc,sL la B.links.length lc,sL pa B.pairs.length pc]] #[]] u fun e u'=> ∃fa fc,e= rT (.agg #[sL (some ⟨fa,0,none⟩) (aC B aT).1.length fc,iN qi (aC B aT).2])/\Hid (0<=(aC B aT).2/\(aC B aT).2<=17820)/\bX W3.heap.size W3 u'):=lH fun u hu=>by
    have hwu:=HBC.out.trans (hu.mono HBC.out.size);refine(qW ⟨ta,la,pa,tc,lc,pc⟩ B HG.out u (Hs.out.below hwu (nR _)) (Hv.out.below hwu)).mono ?_;rintro e u' ⟨fa,fc,rfl,_,_,g3,_,g5⟩;exact⟨fa,fc,rfl,lH g3,hu.trans (g5.mono hu.size)⟩
   clear hp1;generalize aC B2 aT=x at *;generalize aC B aT=y at *;have hwr:0<=x.2/\x.2<=17820->0<=y.2/\y.2<=17820->IntKind.wrap qi (x.2-y.2)=x.2-y.2:=fun h1 h2=>IntWalk.i64_in _ (by omega);have Hw:=lH hwr;clear hwr;have hf121:=EN;have hstart:bX W3.heap.size W3 W3.drew:=(bR _ _).drew
   go_region_held3 (fun w'=>bX W3.heap.size W3 w'/\(w'.cell? ⟨b10,0,none⟩=some (iN qi B.hours)/\w'.cell? ⟨b10,1,none⟩=some (sL va B.towns.length vtc)/\w'.cell? ⟨b10,2,none⟩=some (sL vl B.links.length vlc)/\w'.cell? ⟨b10,3,none⟩=some (sL vp B.pairs.length vpc))/\(w'.cell? ⟨b8,0,none⟩=some (iN qi B.hours)/\w'.cell? ⟨b8,1,none⟩=some (sL ta B.towns.length tc)/\w'.cell? ⟨b8,2,none⟩=some (sL la B.links.length lc)/\w'.cell? ⟨b8,3,none⟩=some (sL pa B.pairs.length pc)))
    ((refine HS.out _ ?_;with_reducible assumption))
    (first
     | (go_simp;go_at_call 35;(with_reducible refine(H1.out _ hstart).mono ?_);rintro e w1 ⟨fa,fc,rfl,hbd1,hbw1⟩)
     | (go_simp;go_at_call 35;(with_reducible refine(H2.out _ hbw1).mono ?_);rintro e w5 ⟨ga,gc,rfl,hbd2,hbw2⟩;have hwr:=Hw.out hbd1.out hbd2.out))
   all_goals
    have Hfin:Hid (bX w.heap.size w w5):=lH (HBC.out.trans (hbw2.mono HBC.out.size));clear hbd1 hbd2;go_wp2;refine bodyPost_ret (v:= .tuple #[iN qi (x.2-y.2),iN qi 0]) (by simp[results,Tryd.results20,go_sem]) rfl ⟨by rw[HE2.out],Hfin.out⟩
 |_=>exact hq.elim
end Go.Proofs.YtfiiffnbggnkfaaDoor
