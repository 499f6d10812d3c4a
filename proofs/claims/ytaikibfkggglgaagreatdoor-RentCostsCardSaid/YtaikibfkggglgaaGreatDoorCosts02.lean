/- A part of the proof of a law; no conditions of its own. -/
import Derived.Test.YtaikibfkggglgaaGreatDoorCosts01
import Derived.Laws.MakeOwn
import Derived.Laws.AppendOwn
set_option maxRecDepth 100000
open Nat renaming le_refl→nR
open Go.Lib renaming hid→lH
open Go.RowKit.Below renaming refl→bR
open Go.Proofs.Tryz renaming prog→tP
open List renaming getElem?_eq_getElem→lG
open Array renaming getElem?_eq_some_iff→aS
open Go.World renaming block_lt_of_cell?→wBk
open Go.World renaming cell?_setCell_far→wF
open List renaming getD_eq_getElem?_getD→lD
set_option maxHeartbeats 4000000
namespace Go.Proofs.YtaikibfkggglgaaGreatDoor
open Go.RowKit Go.Rent Go.Tp Go.Conc
theorem alE {n j:Nat} (hj:j<n):(madeCells #[.int .i64 0] n)[j]? =some (.int .i64 0):=by
 rw[Array.getElem?_eq_getElem (by rw[size_madeCells];exact hj)];simp[madeCells,Nat.mod_one]
theorem LoR.drew {w:World} {la pa:Option Addr} {B:Bk} {lc pc:Nat} {hours towns:Value} {f:Nat->Int} {wr:World} (h:LoR w la pa B lc pc hours towns f wr):LoR w la pa B lc pc hours towns f wr.drew:=⟨h.below.drew,h.size,h.b0,h.b1,h.b2,h.b3,h.out⟩
theorem c59 (V:BkV) (B:Bk) (hB:B.Fine) (xs cs:List Int) (xa ca:Option Addr) (xc cc:Nat) (w:World) (hat:bT w V B) (hx:SlI w xa xs) (hxl:xs.length=B.links.length) (hc:SlI w ca cs) (hcl:cs.length=B.pairs.length) (hT0: ∀k,0<=trk xs k/\trk xs k<=20) (hcb: ∀k,0<=trk cs k/\trk cs k<=5):
  Calls tP 122 #[V.val B,.slice xa B.links.length xc,.slice ca B.pairs.length cc] w fun e w'=> ∃g,e= .returned (.slice (some ⟨g,0,none⟩) B.links.length B.links.length)/\w.heap.size<=g/\(∀j,j<B.links.length->w'.cell? ⟨g,j,none⟩=some (.int .i64 (B.load (trk xs) (trk cs) j)))/\Below w.heap.size w w':=by
 obtain⟨ta,la,pa,tc,lc,pc⟩:=V;have hl:=hB.links;have ht:=hB.towns;have hp:=hB.pairs;unfold Bk.spokes at hl;have hmk:=ZV B.links.length (by omega);go_enter Tryz.func122,Tryz.ntmps122
 go_wp2_with fail
 go_loopw [8] (fun i wr=> ∃k:Nat,k<=B.pairs.length/\i= .int .i64 (k:Int)/\LoR w la pa B lc pc (.int .i64 B.hours) (.slice ta B.towns.length tc) (B.loadTo (trk xs) (trk cs) k) wr) (fun i _=>B.pairs.length-(intOf i).toNat)
 case atStart=>
  refine⟨0,Nat.zero_le _,rfl,⟨(((bR _ _).alloc (nR _) _).alloc (by simp) _),by simp,by go_simp,by go_simp,by go_simp,by go_simp,fun j hj=> ?_⟩⟩;exact⟨by go_simp;simp only[Bk.loadTo];exact alE hj,by go_simp⟩
 case round=>
  obtain⟨k,hk,rfl,hR⟩:=hrel;have hy3:=hR.b3;by_cases hlt:k<B.pairs.length
  ·have hL:B.pairs[k]? =some B.pairs[k]:=lG hlt;obtain⟨he1,he2,he3⟩:=hB.ends k hlt;have hpo:B.pone k=B.pairs[k].one:=by unfold Bk.pone;rw[hL];rfl
   have hpt:B.ptwo k=B.pairs[k].two:=by unfold Bk.ptwo;rw[hL];rfl
   obtain⟨pb,po,sa,sc,g1,g2,g3,g4,_⟩:=(hat.below hR.below (nR _)).pairs _ _ hL;simp only at g1;subst g1;rw[<-hpo] at g2;rw[<-hpt] at g3;generalize B.pairs[k].calls.length=cn at g4;have hs:=hR.size;obtain⟨cb,co,rfl,hcc⟩:=hc k _ (lG (show k<cs.length by omega));rw[afb (by omega)] at hcc;have hcw:=cell_below hR.below hcc (nR _);have hf:B.loadTo (trk xs) (trk cs) (k+1)=B.go (trk xs) (trk cs k) (B.pone k) (B.ptwo k) (B.loadTo (trk xs) (trk cs) k):=rfl;have hfb:=vJ B hB (trk xs) (trk cs) (fun j=>(hT0 j).1) (fun i _=>hcb i) k (by omega);obtain⟨hc0,hc1⟩:=hcb k;generalize B.loadTo (trk xs) (trk cs) k=f at *;generalize B.pone k=a at *;generalize B.ptwo k=b at *;generalize trk cs k=n at *;have Hf:=lH hf;have Hfb:=lH hfb;have HR:=lH hR;have Hat:=lH hat;obtain⟨bj,hbj⟩: ∃j:Nat,(j:Int)=b-1:=⟨(b-1).toNat,Int.toNat_of_nonneg (by omega)⟩;have hbl:bj<B.links.length:=by omega
   have Hbt:Hid ((b-1).toNat=bj):=lH (by omega);obtain⟨o1,o2⟩:=HR.out.out bj hbl;obtain⟨fb0,fb1⟩:0<=f bj/\f bj<=30:=by have:=Hfb.out bj;omega
   have HX:=lH hx;clear hf hfb hL hpo hpt hat hc hx hR;by_cases ha:a=0
   ·subst ha
    go_wp2_with fail
    have HB2:=lH ((bR wr.heap.size wr).alloc (nR _) (.cells #[.int .i64 0,.int .i64 b,.slice sa cn sc] 56));have HR2:=lH (HR.out.step HB2.out);have p1:(wr.alloc (.cells #[.int .i64 0,.int .i64 b,.slice sa cn sc] 56)).cell? ⟨wr.heap.size,1,none⟩=some (.int .i64 b):=by go_simp
    have c3:=cell_below HB2.out hcw (nR _);have o3:=(HR2.out.out bj hbl).1;have f3:=(HR2.out.out bj hbl).2;generalize hW:wr.alloc (.cells #[.int .i64 0,.int .i64 b,.slice sa cn sc] 56)=W at *;clear hW hcw o1 o2 hy3 g2 g3 g4;have w1:IntKind.wrap .i64 (b-1)=(bj:Int):=(IntWalk.i64_in _ (by omega)).trans hbj.symm;have w2:IntKind.wrap .i64 (f bj+n)=f bj+n:=IntWalk.i64_in _ (by omega);have hbl2:(bj:Int)<(B.links.length:Int):=by omega
    have hkl2:(k:Int)<(B.pairs.length:Int):=by omega
    have HBJ:=lH hbj;clear hbj;refine ahn 16 16 (by kernel_rfl) ?_
    change LaB _ _ _ _ _ _ _ W.drew
    refine ag5 0 (.slice (some ⟨w.heap.size+1,0,none⟩) B.links.length B.links.length) ?_ (hr:=by go_simp);refine ag5 1 (.pointer (some ⟨wr.heap.size,1,none⟩)) ?_ (hr:=by go_simp);refine ag5 2 (.int .i64 b) ?_ (hr:=by go_simp);refine ag5 3 (.int .i64 (bj:Int)) ?_ (hr:=by go_simp);refine ag5 4 (.slice (some ⟨w.heap.size+1,0,none⟩) B.links.length B.links.length) ?_ (hr:=by go_simp);refine ag5 5 (.pointer (some ⟨wr.heap.size,1,none⟩)) ?_ (hr:=by go_simp);refine ag5 6 (.int .i64 b) ?_ (hr:=by go_simp);refine ag5 7 (.int .i64 (bj:Int)) ?_ (hr:=by go_simp);refine ag5 8 (.pointer (some ⟨w.heap.size+1,bj,none⟩)) ?_ (hr:=by go_simp);refine ag5 9 (.int .i64 (f bj)) ?_ (hr:=by go_simp);refine ag5 10 (.slice (some ⟨cb,co,none⟩) B.pairs.length cc) ?_ (hr:=by go_simp);refine ag5 11 (.int .i64 (k:Int)) ?_ (hr:=by go_simp);refine ag5 12 (.pointer (some ⟨cb,co+k,none⟩)) ?_ (hr:=by go_simp);refine ag5 13 (.int .i64 n) ?_ (hr:=by go_simp);refine ag5 14 (.int .i64 (f bj+n)) ?_ (hr:=by go_simp);refine ag5 15 (.pointer (some ⟨w.heap.size+1,bj,none⟩)) ?_ (hr:=by go_simp);simp only[Act.put,List.setIfInBounds_toArray];refine⟨by kernel_rfl,by kernel_rfl,wpOp_step rfl fun K hK=> ?_⟩;go_simp;refine hK _ _ ?_;clear hK;have HR6:=lH (HR2.out.set bj (f bj+n));generalize hW6:W.setCell ⟨w.heap.size+1,bj,none⟩ (.int .i64 (f bj+n))=W6 at *;clear hW6;go_wp2;go_roundw
    case rel=>exact⟨k+1,by omega,by go_num,by
     rw[Hf.out];unfold Bk.go;rw[if_pos rfl,Hbt.out];exact HR6.out.drew⟩
    case measure=>simp[intOf];omega
   ·have ha1:1<=a:=by omega
    obtain⟨ajj,haj⟩: ∃j:Nat,(j:Int)=a-1:=⟨(a-1).toNat,Int.toNat_of_nonneg (by omega)⟩;have hal:ajj<B.links.length:=by omega
    have Hat1:Hid ((a-1).toNat=ajj):=lH (by omega);have hdb:=pF B hB a b;have hs0:w.heap.size<wr.heap.size:=by omega
    have hcbz:=wBk _ _ hcw;have hx10:=HR.out.b0;have hx11:=HR.out.b1;have hx12:=HR.out.b2;have HB2:=lH ((bR wr.heap.size wr).alloc (nR _) (.cells #[.int .i64 a,.int .i64 b,.slice sa cn sc] 56));have HR2:=lH (HR.out.step HB2.out);have HBJ:=lH hbj;have HAJ:=lH haj;clear hbj haj
    go_wp2_with fail
    refine(c94 ⟨ta,la,some ⟨pb,po,none⟩,tc,lc,pc⟩ B hB a b _ (Hat.out.below HR2.out.below (nR _))).mono ?_;rintro e w3 ⟨rfl,hb3⟩;have HR3:=lH (HR2.out.step hb3);have q0:w3.cell? ⟨wr.heap.size,0,none⟩=some (.int .i64 a):=by rw[(ak hb3).1 _ _ (by simp)];go_simp
    have q1:w3.cell? ⟨wr.heap.size,1,none⟩=some (.int .i64 b):=by rw[(ak hb3).1 _ _ (by simp)];go_simp
    have hcw3:=cell_below HR3.out.below hcc (nR _);clear hb3 hx10 hx11 hx12 hcw;unfold Bk.go at Hf;rw[if_neg ha] at Hf;generalize B.direct a b=dv at *;obtain⟨oa,oaf⟩:=HR3.out.out ajj hal;obtain⟨fa0,fa1⟩:0<=f ajj/\f ajj<=30:=by have:=Hfb.out ajj;omega
    have w1:IntKind.wrap .i64 (b-1)=(bj:Int):=(IntWalk.i64_in _ (by omega)).trans HBJ.out.symm;have w2:IntKind.wrap .i64 (a-1)=(ajj:Int):=(IntWalk.i64_in _ (by omega)).trans HAJ.out.symm;have hba: ¬bj=ajj:=by have h1:=HBJ.out;have h2:=HAJ.out;omega
    have hbl2:(bj:Int)<(B.links.length:Int):=by omega
    have hal2:(ajj:Int)<(B.links.length:Int):=by omega
    have hkl2:(k:Int)<(B.pairs.length:Int):=by omega
    rcases hdb with hdv |⟨hd0,hd1⟩
    ·subst hdv;have w3n:IntKind.wrap .i64 (f ajj+n)=f ajj+n:=IntWalk.i64_in _ (by omega);have w4n:IntKind.wrap .i64 (f bj+n)=f bj+n:=IntWalk.i64_in _ (by omega)
     go_wp2_with fail
     refine ahn 13 13 (by kernel_rfl) ?_
     change LaB _ _ _ _ _ _ _ (World.drew w3)
     refine ag5 0 (.slice (some ⟨w.heap.size+1,0,none⟩) B.links.length B.links.length) ?_ (hr:=by go_simp);refine ag5 1 (.pointer (some ⟨wr.heap.size,0,none⟩)) ?_ (hr:=by go_simp);refine ag5 2 (.int .i64 a) ?_ (hr:=by go_simp);refine ag5 3 (.int .i64 (ajj:Int)) ?_ (hr:=by go_simp);refine ag5 4 (.slice (some ⟨w.heap.size+1,0,none⟩) B.links.length B.links.length) ?_ (hr:=by go_simp);refine ag5 5 (.pointer (some ⟨wr.heap.size,0,none⟩)) ?_ (hr:=by go_simp);refine ag5 6 (.int .i64 a) ?_ (hr:=by go_simp);refine ag5 7 (.int .i64 (ajj:Int)) ?_ (hr:=by go_simp);refine ag5 8 (.pointer (some ⟨w.heap.size+1,ajj,none⟩)) ?_ (hr:=by go_simp);refine ag5 9 (.int .i64 (f ajj)) ?_ (hr:=by go_simp);refine ag5 10 (.int .i64 n) ?_ (hr:=by go_simp);refine ag5 11 (.int .i64 (f ajj+n)) ?_ (hr:=by go_simp);refine ag5 12 (.pointer (some ⟨w.heap.size+1,ajj,none⟩)) ?_ (hr:=by go_simp);simp only[Act.put,List.setIfInBounds_toArray];refine⟨by kernel_rfl,by kernel_rfl,wpOp_step rfl fun K hK=> ?_⟩;go_simp;refine hK _ _ ?_;clear hK;have HR4:=lH (HR3.out.set ajj (f ajj+n)).drew;have q1b:(w3.setCell ⟨w.heap.size+1,ajj,none⟩ (.int .i64 (f ajj+n))).drew.cell? ⟨wr.heap.size,1,none⟩=some (.int .i64 b):=(wF _ _ _ _ (show w.heap.size+1≠wr.heap.size by omega)).trans q1;generalize hW4:(w3.setCell ⟨w.heap.size+1,ajj,none⟩ (.int .i64 (f ajj+n))).drew=W4 at *;clear hW4 q0 q1 oa oaf;obtain⟨ob,obf⟩:=HR4.out.out bj hbl;rw[dQ _ _ hba] at ob
     go_wp2_with fail
     refine ahn 13 13 (by kernel_rfl) ?_
     change LaB _ _ _ _ _ _ _ (World.drew W4)
     refine ag5 0 (.slice (some ⟨w.heap.size+1,0,none⟩) B.links.length B.links.length) ?_ (hr:=by go_simp);refine ag5 1 (.pointer (some ⟨wr.heap.size,1,none⟩)) ?_ (hr:=by go_simp);refine ag5 2 (.int .i64 b) ?_ (hr:=by go_simp);refine ag5 3 (.int .i64 (bj:Int)) ?_ (hr:=by go_simp);refine ag5 4 (.slice (some ⟨w.heap.size+1,0,none⟩) B.links.length B.links.length) ?_ (hr:=by go_simp);refine ag5 5 (.pointer (some ⟨wr.heap.size,1,none⟩)) ?_ (hr:=by go_simp);refine ag5 6 (.int .i64 b) ?_ (hr:=by go_simp);refine ag5 7 (.int .i64 (bj:Int)) ?_ (hr:=by go_simp);refine ag5 8 (.pointer (some ⟨w.heap.size+1,bj,none⟩)) ?_ (hr:=by go_simp);refine ag5 9 (.int .i64 (f bj)) ?_ (hr:=by go_simp);refine ag5 10 (.int .i64 n) ?_ (hr:=by go_simp);refine ag5 11 (.int .i64 (f bj+n)) ?_ (hr:=by go_simp);refine ag5 12 (.pointer (some ⟨w.heap.size+1,bj,none⟩)) ?_ (hr:=by go_simp);simp only[Act.put,List.setIfInBounds_toArray];refine⟨by kernel_rfl,by kernel_rfl,wpOp_step rfl fun K hK=> ?_⟩;go_simp;refine hK _ _ ?_;clear hK;have HR6:=lH (HR4.out.set bj (f bj+n)).drew;generalize hW6:(W4.setCell ⟨w.heap.size+1,bj,none⟩ (.int .i64 (f bj+n))).drew=W6 at *;clear hW6;go_wp2;go_roundw
     case rel=>exact⟨k+1,by omega,by go_num,by
      rw[Hf.out,Hbt.out,Hat1.out,if_neg (by decide),if_neg (by decide),dQ _ _ hba,Int.sub_zero];exact HR6.out⟩
     case measure=>simp[intOf];omega
    ·unfold Bk.spokes at hd0;obtain⟨kd,rfl⟩:=Int.eq_ofNat_of_zero_le (show 0<=dv by omega);have hkl:kd<B.links.length:=by omega
     have hak: ¬ajj=kd:=by have h1:=HBJ.out;have h2:=HAJ.out;omega
     have hbk: ¬bj=kd:=by have h1:=HBJ.out;have h2:=HAJ.out;omega
     obtain⟨tb,tofs,rfl,htc⟩:=HX.out kd _ (lG (show kd<xs.length by omega));rw[afb (by omega)] at htc;have htk:=cell_below HR3.out.below htc (nR _);have hTk:=hT0 kd;obtain⟨ok,okf⟩:=HR3.out.out kd hkl;obtain⟨m,hm⟩: ∃m,m=min n (trk xs kd):=⟨_,rfl⟩;have Hf2:Hid (B.loadTo (trk xs) (trk cs) (k+1)=fup (fup (fup f kd m) ajj (f ajj+(n-m))) bj (f bj+(n-m))):=lH (by rw[Hf.out,Hbt.out,Hat1.out];dsimp only;rw[if_pos (show (0 :Int)<=(kd:Int) by omega),if_pos (show (0 :Int)<=(kd:Int) by omega),Int.toNat_natCast,<-hm,dQ _ _ hba,dQ _ _ hak,dQ _ _ hbk]);clear Hf;generalize trk xs kd=tk at *;have hmb:0<=m/\m<=n:=by omega
     have wmin:(if tk<n then tk else n)=m:=by split<;>omega
     obtain⟨ov,hov⟩: ∃ov,ov=n-m:=⟨_,rfl⟩;rw[<-hov] at Hf2;have wov:IntKind.wrap .i64 (n-m)=ov:=(IntWalk.i64_in _ (by omega)).trans hov.symm;have w3n:IntKind.wrap .i64 (f ajj+ov)=f ajj+ov:=IntWalk.i64_in _ (by omega);have w4n:IntKind.wrap .i64 (f bj+ov)=f bj+ov:=IntWalk.i64_in _ (by omega);have hkl3:(kd:Int)<(B.links.length:Int):=by omega
     have HM:=lH hm;have HOV:=lH hov;clear hm hov htc
     go_wp2_with fail
     refine ahn 12 12 (by kernel_rfl) ?_
     change LaB _ _ _ _ _ _ _ (World.drew w3)
     refine ag5 0 (.slice (some ⟨w.heap.size+1,0,none⟩) B.links.length B.links.length) ?_ (hr:=by go_simp);refine ag5 1 (.int .i64 (kd:Int)) ?_ (hr:=by go_simp);refine ag5 2 (.slice (some ⟨cb,co,none⟩) B.pairs.length cc) ?_ (hr:=by go_simp);refine ag5 3 (.int .i64 (k:Int)) ?_ (hr:=by go_simp);refine ag5 4 (.pointer (some ⟨cb,co+k,none⟩)) ?_ (hr:=by go_simp);refine ag5 5 (.int .i64 n) ?_ (hr:=by go_simp);refine ag5 6 (.slice (some ⟨tb,tofs,none⟩) B.links.length xc) ?_ (hr:=by go_simp);refine ag5 7 (.int .i64 (kd:Int)) ?_ (hr:=by go_simp);refine ag5 8 (.pointer (some ⟨tb,tofs+kd,none⟩)) ?_ (hr:=by go_simp);refine ag5 9 (.int .i64 tk) ?_ (hr:=by go_simp);refine ag5 10 (.int .i64 m) ?_ (hr:=by go_simp);refine ag5 11 (.pointer (some ⟨w.heap.size+1,kd,none⟩)) ?_ (hr:=by go_simp);simp only[Act.put,List.setIfInBounds_toArray];refine⟨by kernel_rfl,by kernel_rfl,wpOp_step rfl fun K hK=> ?_⟩;go_simp;refine hK _ _ ?_;clear hK;have HR4:=lH (HR3.out.set kd m).drew;have q0b:(w3.setCell ⟨w.heap.size+1,kd,none⟩ (.int .i64 m)).drew.cell? ⟨wr.heap.size,0,none⟩=some (.int .i64 a):=(wF _ _ _ _ (show w.heap.size+1≠wr.heap.size by omega)).trans q0;have q1b:(w3.setCell ⟨w.heap.size+1,kd,none⟩ (.int .i64 m)).drew.cell? ⟨wr.heap.size,1,none⟩=some (.int .i64 b):=(wF _ _ _ _ (show w.heap.size+1≠wr.heap.size by omega)).trans q1;have hcw4:=cell_below HR4.out.below hcc (nR _);generalize hW4:(w3.setCell ⟨w.heap.size+1,kd,none⟩ (.int .i64 m)).drew=W4 at *;clear hW4 q0 q1 oa oaf ok okf hcw3 htk;have ok:=(HR4.out.out kd hkl).1;rw[BZ] at ok
     go_wp2_with fail
     refine ahn 9 9 (by kernel_rfl) ?_
     change LaB _ _ _ _ _ _ _ (World.drew W4)
     refine ag5 0 (.slice (some ⟨cb,co,none⟩) B.pairs.length cc) ?_ (hr:=by go_simp);refine ag5 1 (.int .i64 (k:Int)) ?_ (hr:=by go_simp);refine ag5 2 (.pointer (some ⟨cb,co+k,none⟩)) ?_ (hr:=by go_simp);refine ag5 3 (.int .i64 n) ?_ (hr:=by go_simp);refine ag5 4 (.slice (some ⟨w.heap.size+1,0,none⟩) B.links.length B.links.length) ?_ (hr:=by go_simp);refine ag5 5 (.int .i64 (kd:Int)) ?_ (hr:=by go_simp);refine ag5 6 (.pointer (some ⟨w.heap.size+1,kd,none⟩)) ?_ (hr:=by go_simp);refine ag5 7 (.int .i64 m) ?_ (hr:=by go_simp);refine ag5 8 (.int .i64 ov) ?_ (hr:=by go_simp);simp only[Act.put,List.setIfInBounds_toArray];refine⟨by kernel_rfl,by kernel_rfl,wpOp_step rfl fun K hK=> ?_⟩;go_simp;refine hK _ _ ?_;clear hK;have HR5:=lH HR4.out.drew;have q0c:W4.drew.cell? ⟨wr.heap.size,0,none⟩=some (.int .i64 a):=q0b;have q1c:W4.drew.cell? ⟨wr.heap.size,1,none⟩=some (.int .i64 b):=q1b;generalize hW5:W4.drew=W5 at *;clear hW5 q0b q1b ok hcw4;obtain⟨oa,oaf⟩:=HR5.out.out ajj hal;rw[dQ _ _ hak] at oa
     go_wp2_with fail
     refine ahn 13 13 (by kernel_rfl) ?_
     change LaB _ _ _ _ _ _ _ (World.drew W5)
     refine ag5 0 (.slice (some ⟨w.heap.size+1,0,none⟩) B.links.length B.links.length) ?_ (hr:=by go_simp);refine ag5 1 (.pointer (some ⟨wr.heap.size,0,none⟩)) ?_ (hr:=by go_simp);refine ag5 2 (.int .i64 a) ?_ (hr:=by go_simp);refine ag5 3 (.int .i64 (ajj:Int)) ?_ (hr:=by go_simp);refine ag5 4 (.slice (some ⟨w.heap.size+1,0,none⟩) B.links.length B.links.length) ?_ (hr:=by go_simp);refine ag5 5 (.pointer (some ⟨wr.heap.size,0,none⟩)) ?_ (hr:=by go_simp);refine ag5 6 (.int .i64 a) ?_ (hr:=by go_simp);refine ag5 7 (.int .i64 (ajj:Int)) ?_ (hr:=by go_simp);refine ag5 8 (.pointer (some ⟨w.heap.size+1,ajj,none⟩)) ?_ (hr:=by go_simp);refine ag5 9 (.int .i64 (f ajj)) ?_ (hr:=by go_simp);refine ag5 10 (.int .i64 ov) ?_ (hr:=by go_simp);refine ag5 11 (.int .i64 (f ajj+ov)) ?_ (hr:=by go_simp);refine ag5 12 (.pointer (some ⟨w.heap.size+1,ajj,none⟩)) ?_ (hr:=by go_simp);simp only[Act.put,List.setIfInBounds_toArray];refine⟨by kernel_rfl,by kernel_rfl,wpOp_step rfl fun K hK=> ?_⟩;go_simp;refine hK _ _ ?_;clear hK;have HR6:=lH (HR5.out.set ajj (f ajj+ov)).drew;have q1d:(W5.setCell ⟨w.heap.size+1,ajj,none⟩ (.int .i64 (f ajj+ov))).drew.cell? ⟨wr.heap.size,1,none⟩=some (.int .i64 b):=(wF _ _ _ _ (show w.heap.size+1≠wr.heap.size by omega)).trans q1c;generalize hW6:(W5.setCell ⟨w.heap.size+1,ajj,none⟩ (.int .i64 (f ajj+ov))).drew=W6 at *;clear hW6 q0c q1c oa oaf;obtain⟨ob,obf⟩:=HR6.out.out bj hbl;rw[dQ _ _ hba,dQ _ _ hbk] at ob
     go_wp2_with fail
     refine ahn 13 13 (by kernel_rfl) ?_
     change LaB _ _ _ _ _ _ _ (World.drew W6)
     refine ag5 0 (.slice (some ⟨w.heap.size+1,0,none⟩) B.links.length B.links.length) ?_ (hr:=by go_simp);refine ag5 1 (.pointer (some ⟨wr.heap.size,1,none⟩)) ?_ (hr:=by go_simp);refine ag5 2 (.int .i64 b) ?_ (hr:=by go_simp);refine ag5 3 (.int .i64 (bj:Int)) ?_ (hr:=by go_simp);refine ag5 4 (.slice (some ⟨w.heap.size+1,0,none⟩) B.links.length B.links.length) ?_ (hr:=by go_simp);refine ag5 5 (.pointer (some ⟨wr.heap.size,1,none⟩)) ?_ (hr:=by go_simp);refine ag5 6 (.int .i64 b) ?_ (hr:=by go_simp);refine ag5 7 (.int .i64 (bj:Int)) ?_ (hr:=by go_simp);refine ag5 8 (.pointer (some ⟨w.heap.size+1,bj,none⟩)) ?_ (hr:=by go_simp);refine ag5 9 (.int .i64 (f bj)) ?_ (hr:=by go_simp);refine ag5 10 (.int .i64 ov) ?_ (hr:=by go_simp);refine ag5 11 (.int .i64 (f bj+ov)) ?_ (hr:=by go_simp);refine ag5 12 (.pointer (some ⟨w.heap.size+1,bj,none⟩)) ?_ (hr:=by go_simp);simp only[Act.put,List.setIfInBounds_toArray];refine⟨by kernel_rfl,by kernel_rfl,wpOp_step rfl fun K hK=> ?_⟩;go_simp;refine hK _ _ ?_;clear hK;have HR7:=lH (HR6.out.set bj (f bj+ov)).drew;generalize hW7:(W6.setCell ⟨w.heap.size+1,bj,none⟩ (.int .i64 (f bj+ov))).drew=W7 at *;clear hW7;go_wp2;go_roundw
     case rel=>exact⟨k+1,by omega,by go_num,by rw[Hf2.out];exact HR7.out⟩
     case measure=>simp[intOf];omega
  ·have hke:k=B.pairs.length:=by omega
   have HR:=lH hR;have hs:=hR.size;have Hke:=lH hke;clear hke hR;go_wp2;go_ret;refine⟨w.heap.size+1,rfl,by omega,fun j hj=> ?_,HR.out.below⟩;have:=(HR.out.out j hj).1;rw[Hke.out] at this;exact this
theorem alF (B:Bk) (T c c':Nat->Int) (h: ∀i,i<B.pairs.length->c i=c' i): ∀n,n<=B.pairs.length->B.loadTo T c n=B.loadTo T c' n
 | 0,_=>rfl
 |n+1,hn=>by
  unfold Bk.loadTo;rw[alF B T c c' h n (by omega),h n (by omega)]
theorem alG (B:Bk) (T:Nat->Int) (most:Bool) (h:Nat):B.load T (trk (aey B most h B.pairs.length))=B.inn T most h:=
 alF B T _ _ (fun _ hi=>ae4 B most h hi) _ (nR _)
end Go.Proofs.YtaikibfkggglgaaGreatDoor
namespace Go.Proofs.YtaikibfkggglgaaGreatDoor
open Go.RowKit Go.Tp
section
variable {P:Program} {ops:Array Oper} {Q:Exit->Act->World->Prop} {z:Nat} {S:World->Prop}
def aji (ops:Array Oper):Nat->Nat->Nat->Bool
 | 0,_,_=>false
 |f+1,j,i=>((ops[j]?).map fun o=>o.after.any fun e=>Region.binds .any e&&(e.on==i||aji ops f e.on i)).getD false
def Shut (ops:Array Oper) (listed:Array Bool):Prop:= ∀(j:Nat) (o:Oper),ops[j]? =some o->listed.getD j false=true-> ∀e∈o.after,Region.binds .any e=true->listed.getD e.on false=true
def alz (ops:Array Oper) (listed:Array Bool):Bool:=(List.range ops.size).all fun j=> !listed.getD j false||((ops[j]?).map fun o=>o.after.all fun e=> !Region.binds .any e||listed.getD e.on false).getD true
theorem ajm {ops:Array Oper} {listed:Array Bool} (h:alz ops listed=true):Shut ops listed:=fun j o hj hl e he hb=>by
 unfold alz at h;rw[List.all_eq_true] at h;have h1:=h j (List.mem_range.2 (aS.1 hj).1);rw[hj,hl] at h1;simp only[Bool.not_true,Bool.false_or,Option.map_some,Option.getD_some,Array.all_eq_true] at h1;obtain⟨k,hk,rfl⟩:=Array.getElem_of_mem he;have h2:=h1 k hk;rw[hb] at h2;simpa using h2
theorem ajk {ops:Array Oper} {listed:Array Bool} (hs:Shut ops listed): ∀(f j i:Nat),(∀o,ops[j]? =some o-> ∀e∈o.after,Region.binds .any e=true->listed.getD e.on false=true)->aji ops f j i=true->listed.getD i false=true
 | 0,_,_,_,h=>by cases h
 |f+1,j,i,hj,h=>by
  unfold aji at h
  cases ho:ops[j]? with
  |none=>rw[ho] at h;cases h
  |some o=>
   rw[ho] at h;simp only[Option.map_some,Option.getD_some,Array.any_eq_true,Bool.and_eq_true,Bool.or_eq_true,beq_iff_eq] at h;obtain⟨k,hk,hb,h1⟩:=h;have hl:=hj o ho _ (Array.getElem_mem hk) hb
   rcases h1 with h1 |h1
   ·rw[<-h1];exact hl
   ·exact ajk hs f _ i (fun o2 ho2 e he hb2=>hs _ o2 ho2 hl e he hb2) h1
theorem ajl {listed:Array Bool} {j k:Nat} (h:listed.getD k false=true):(listed.setIfInBounds j true).getD k false=true:=by
 by_cases c:j=k
 ·subst c
  rcases Nat.lt_or_ge j listed.size with h' |h'
  ·simp[h']
  ·simp[Array.getElem?_eq_none h'] at h
 ·rcases Nat.lt_or_ge k listed.size with h' |h'
  ·simp[h',c] at h ⊢; exact h
  ·simp[Array.getElem?_eq_none h'] at h
theorem ajn {ops:Array Oper} {listed:Array Bool} (hs:Shut ops listed) {j:Nat} (hj: ∀o,ops[j]? =some o-> ∀e∈o.after,Region.binds .any e=true->listed.getD e.on false=true):Shut ops (listed.setIfInBounds j true):=fun k o hk hl e he hb=>by
 by_cases c:j=k
 ·subst c;exact ajl (hj o hk e he hb)
 ·refine ajl (hs k o hk ?_ e he hb)
  rcases Nat.lt_or_ge k listed.size with h' |h'
  ·simp[h',c] at hl ⊢; exact hl
  ·have e2:(listed.setIfInBounds j true).getD k false=false:=by
    simp only[Array.getD_eq_getD_getElem?];rw[Array.getElem?_eq_none (by simpa using h')];rfl
   rw[e2] at hl
   cases hl
def ah6 (P:Program) (K:Value->World->Prop):Result Next->Prop
 | .ok (.value v) w'=>K v w'
 | .ok .skip w'=>K undef w'
 | .ok (.enter f args) w'=>Calls P f args w' fun e w''=> ∃v,e= .returned v/\K v w''
 |_=>False
def ahO (P:Program) (o:Oper) (a:Act) (w:World) (K:Value->World->Prop):Prop:=ah6 P K ((execOp a.eval o).run P w)
theorem ahO.mono {o:Oper} {a:Act} {w:World} {K K':Value->World->Prop} (h:ahO P o a w K) (hk: ∀v w',K v w'->K' v w'):ahO P o a w K':=by
 unfold ahO at *;generalize (execOp a.eval o).run P w=r at *
 cases r with
 |ok n w'=>
  cases n<;>simp only[ah6] at h ⊢ <;>
   first
    |exact hk _ _ h
    |exact h.mono fun e w'' ⟨v,e1,k⟩=>⟨v,e1,hk _ _ k⟩
 |halt x w'=>exact h
theorem ahO.wp {o:Oper} {a:Act} {w:World} {K:Act->World->Prop} (h:ahO P o a w fun v w'=>K (a.put o.dst v) w'):o.wp P a w K Q:=by
 unfold ahO at h;unfold Oper.wp;generalize (execOp a.eval o).run P w=r at *
 cases r with
 |ok n w'=>
  cases n<;>simp only[ah6,Oper.upon] at h ⊢ <;>
   first
    |exact h
    | (refine h.mono ?_;rintro e w'' ⟨v,rfl,k⟩;exact k)
 |halt x w'=>exact h.elim
def LaS (P:Program) (ops:Array Oper) (Q:Exit->Act->World->Prop) (z:Nat) (S:World->Prop):Nat->Array Bool->Act->World->Prop
  | 0,listed,a,w=>Region.ready .any ops listed= []/\Q .normal a w
  |n+1,listed,a,w=>Region.ready .any ops listed≠ []/\ ∀i∈Region.ready .any ops listed,∃o,ops[i]? =some o/\
      ((Region.wanted o (yielded ops a.tmps)=false/\LaS P ops Q z S n (listed.setIfInBounds i true) (a.put o.dst undef) w)\/
       (Region.wanted o (yielded ops a.tmps)=true/\ahO P o a w fun v w'=>(i≠z/\i≠z+1->S w')/\LaS P ops Q z S n (listed.setIfInBounds i true) (a.put o.dst v) w'))
theorem ah7: ∀(n:Nat) (listed:Array Bool) (a:Act) (w:World),LaS P ops Q z S n listed a w->wpAny P .any ops Q n listed a w
  | 0,_,_,_,h=>h
  |n+1,_,_,_,h=>⟨fun e=>absurd e h.1,fun i hi=>by
      obtain⟨o,ho,hh⟩:=h.2 i hi;unfold Go.wpOp;simp only[ho]
      rcases hh with ⟨hw,h2⟩ |⟨hw,h2⟩
      · simp only[hw,Bool.false_eq_true,if_false];exact ah7 n _ _ _ h2
      · simp only[hw,if_true]
        exact .inl (ahO.wp (h2.mono fun v w' k=>ah7 n _ _ _ k.2))⟩
theorem aiJ {i:Nat} {oi:Oper} {v:Value} (hi:ops[i]? =some oi) (hsel: ∀(j:Nat) (o:Oper) cs b,ops[j]? =some o->o.op≠ .select cs b) (hz:ops.size<=z\/ ∃f,aji ops f z i=true) (hz2:ops.size<=z+1\/ ∃f,aji ops f (z+1) i=true):
    ∀(n:Nat) (listed:Array Bool) (a:Act) (w:World),Shut ops listed->
      (∀j oj,ops[j]? =some oj->j≠i->listed.getD j true=false->(∀e∈oj.after,Region.binds .any e=true->e.on≠i)->oi.apart ops oj=true)->
      i∈Region.ready .any ops listed->S w->Region.wanted oi (yielded ops a.tmps)=true->(∀u,S u->(execOp a.eval oi).run P u= .ok (.value v) u)->LaS P ops Q z S n (listed.setIfInBounds i true) (a.put oi.dst v) w->LaS P ops Q z S (n+1) listed a w:=by
  intro n
  induction n with
  |zero=>
    intro listed a w _ _ hr hS hw hy H;refine⟨fun h=>(by rw[h] at hr;cases hr),fun j hj=> ?_⟩;by_cases hji:j=i
    · subst hji
      refine⟨oi,hi,.inr ⟨hw, ?_⟩⟩;unfold ahO;rw[hy w hS];exact⟨fun _=>hS,H⟩
    · have h1:=ready_mono hj hji
      rw[H.1] at h1
      cases h1
  |succ n ih=>
    intro listed a w hsh hfree hr hS hw hy H;refine⟨fun h=>(by rw[h] at hr;cases hr),fun j hj=> ?_⟩;by_cases hji:j=i
    · subst hji
      refine⟨oi,hi,.inr ⟨hw, ?_⟩⟩;unfold ahO;rw[hy w hS];exact⟨fun _=>hS,H⟩
    · obtain⟨oj',hoj',H2⟩:=H.2 j (ready_mono hj hji)
      obtain⟨hjun,oj,hoj,hall⟩:=mem_ready.1 hj;have e1:oj'=oj:=Option.some.inj (hoj'.symm.trans hoj);rw[e1] at H2;have hun: ∀k,k=i->listed.getD k false=false:=fun k hk=>by
        subst hk;have h0:=(mem_ready.1 hr).1
        rcases Nat.lt_or_ge k listed.size with h' |h'
        · simp[h'] at h0 ⊢; exact h0
        · simp[Array.getElem?_eq_none h']
      have hnot: ∀e∈oj.after,Region.binds .any e=true->e.on≠i:=fun e he hb heq=>by
        have h1:=hall e he hb;rw[hun _ heq] at h1
        cases h1
      have hno: ∀y,(ops.size<=y\/ ∃f,aji ops f y i=true)->j≠y:=fun y hy e=>by
        subst e;have hjl:j<ops.size:=(aS.1 hoj).1
        rcases hy with hy |⟨f,hy⟩
        · omega
        · have:=ajk hsh f j i (fun o ho e he hb=>by rw[hoj] at ho;cases ho;exact hall e he hb) hy
          rw[hun i rfl] at this
          cases this
      have hjz:j≠z/\j≠z+1:=⟨hno z hz,hno (z+1) hz2⟩;obtain⟨h1,h2,h3⟩:=Oper.apart_spec (hfree j oj hoj hji hjun hnot);have hwj:Region.wanted oj (yielded ops (a.put oi.dst v).tmps)=Region.wanted oj (yielded ops a.tmps):=wanted_put oj a oi.dst v h1;have hej:execOp (a.put oi.dst v).eval oj=execOp a.eval oj:=execOp_put oj (fun cs b=>hsel j oj cs b hoj) a oi.dst v h1;have hfree': ∀k ok,ops[k]? =some ok->k≠i->(listed.setIfInBounds j true).getD k true=false->
          (∀e∈ok.after,Region.binds .any e=true->e.on≠i)->oi.apart ops ok=true:=fun k ok hk hki hun' hno=>by
        refine hfree k ok hk hki ?_ hno;by_cases hjk:j=k
        · subst hjk;exact hjun
        · rw[getD_set_ne true hjk] at hun';exact hun'
      have key: ∀(vj:Value) (w':World),S w'->LaS P ops Q z S n ((listed.setIfInBounds i true).setIfInBounds j true) ((a.put oi.dst v).put oj.dst vj) w'->LaS P ops Q z S (n+1) (listed.setIfInBounds j true) (a.put oj.dst vj) w':=fun vj w' hS' k=>by
        refine ih (listed.setIfInBounds j true) (a.put oj.dst vj) w' (ajn hsh fun o ho e he hb=>by rw[hoj] at ho;cases ho;exact hall e he hb) hfree' (ready_mono hr (Ne.symm hji)) hS' ?_ (fun u hu=> ?_) ?_
        · rw[wanted_put oi a oj.dst vj h3];exact hw
        · rw[execOp_put oi (fun cs b=>hsel i oi cs b hi) a oj.dst vj h3];exact hy u hu
        · rw[Array.setIfInBounds_comm _ _ hji,<-Act.put_comm a v vj h2]
          exact k
      refine⟨oj,hoj, ?_⟩
      rcases H2 with ⟨hw2,k⟩ |⟨hw2,k⟩
      · exact .inl ⟨hwj.symm.trans hw2,key _ _ hS k⟩
      · refine .inr ⟨hwj.symm.trans hw2, ?_⟩
        unfold ahO at k ⊢;rw[hej] at k;exact ahO.mono (o:=oj) (a:=a) (w:=w) k fun vj w' hk=>⟨hk.1,key vj w' (hk.1 hjz) hk.2⟩
theorem ahN (i:Nat) {o:Oper} (v:Value) {n:Nat} {listed:Array Bool} {a:Act} {w:World} (hS:S w) (h:LaS P ops Q z S n (listed.setIfInBounds i true) (a.put o.dst v) w) (ho:ops[i]? =some o:=by rfl) (hw:Region.wanted o (yielded ops a.tmps)=true:=by rfl) (hr: ∀u,S u->(execOp a.eval o).run P u= .ok (.value v) u)
  (hs:Region.noSelect ops=true:=by kernel_rfl) (hf:Region.free .any ops listed i=true:=by kernel_rfl) (hc:(Region.ready .any ops listed).contains i=true:=by kernel_rfl) (hsh:alz ops listed=true:=by kernel_rfl) (hz:ops.size<=z\/ ∃f,aji ops f z i=true:=by first | (refine .inl ?_;decide) | (refine .inr ⟨1, ?_⟩;decide+kernel) | (refine .inr ⟨2, ?_⟩;decide+kernel) | (refine .inr ⟨3, ?_⟩;decide+kernel) | (refine .inr ⟨6, ?_⟩;decide+kernel)) (hz2:ops.size<=z+1\/ ∃f,aji ops f (z+1) i=true:=by first | (refine .inl ?_;decide) | (refine .inr ⟨1, ?_⟩;decide+kernel) | (refine .inr ⟨2, ?_⟩;decide+kernel) | (refine .inr ⟨3, ?_⟩;decide+kernel) | (refine .inr ⟨6, ?_⟩;decide+kernel)):LaS P ops Q z S (n+1) listed a w:=
 aiJ ho (Region.noSelect_spec hs) hz hz2 n listed a w (ajm hsh) (Region.free_spec ho hf) (by simpa using hc) hS hw hr h
theorem ahQ (i:Nat) {o:Oper} {n:Nat} {listed:Array Bool} {a:Act} {w:World} (ho:ops[i]? =some o:=by rfl) (hw:Region.wanted o (yielded ops a.tmps)=true:=by rfl) (hc:Region.ready .any ops listed= [i]:=by kernel_rfl) (h:ahO P o a w fun v w'=>(i≠z/\i≠z+1->S w')/\LaS P ops Q z S n (listed.setIfInBounds i true) (a.put o.dst v) w'):LaS P ops Q z S (n+1) listed a w:=
 ⟨by rw[hc];exact List.cons_ne_nil _ _,fun j hj=>by
  rw[hc,List.mem_singleton] at hj;subst hj;exact⟨o,ho,.inr ⟨hw,h⟩⟩⟩
theorem aie (i j:Nat) {oi oj:Oper} {n:Nat} {listed:Array Bool} {a:Act} {w:World} (h1:ahO P oi a w fun v w'=>(i≠z/\i≠z+1->S w')/\LaS P ops Q z S n (listed.setIfInBounds i true) (a.put oi.dst v) w') (h2:ahO P oj a w fun v w'=>(j≠z/\j≠z+1->S w')/\LaS P ops Q z S n (listed.setIfInBounds j true) (a.put oj.dst v) w')
  (hoi:ops[i]? =some oi:=by rfl) (hoj:ops[j]? =some oj:=by rfl) (hwi:Region.wanted oi (yielded ops a.tmps)=true:=by rfl) (hwj:Region.wanted oj (yielded ops a.tmps)=true:=by rfl) (hc:Region.ready .any ops listed= [i,j]:=by kernel_rfl):LaS P ops Q z S (n+1) listed a w:=
 ⟨by rw[hc];exact List.cons_ne_nil _ _,fun k hk=>by
  rw[hc,List.mem_cons,List.mem_singleton] at hk
  rcases hk with rfl |rfl
  ·exact⟨oi,hoi,.inr ⟨hwi,h1⟩⟩
  ·exact⟨oj,hoj,.inr ⟨hwj,h2⟩⟩⟩
theorem aif {id:Nat} {a:Act} {w:World} (z n:Nat) (S:World->Prop) (hm:P.follows .mixedOrders=true) (h:LaS P ops Q z S n (Array.replicate n false) a w.drew) (hn:ops.size=n:=by rfl):(Code.region id ops true).wp P Q a w:=
 wp_region_any hm (by rw[hn];exact ah7 _ _ _ _ h)
theorem ahZ {listed:Array Bool} {a:Act} {w:World} (h:Q .normal a w) (hr:Region.ready .any ops listed= []:=by kernel_rfl):LaS P ops Q z S 0 listed a w:=⟨hr,h⟩
theorem ah0 {o:Oper} {a:Act} {w w':World} {v:Value} {K:Value->World->Prop} (hr:(execOp a.eval o).run P w= .ok (.value v) w') (h:K v w'):ahO P o a w K:=by unfold ahO;rw[hr];exact h
theorem ah1 {o:Oper} {a:Act} {w w':World} {K:Value->World->Prop} (hr:(execOp a.eval o).run P w= .ok .skip w') (h:K undef w'):ahO P o a w K:=by unfold ahO;rw[hr];exact h
theorem ahW {o:Oper} {a:Act} {w w':World} {f:FuncId} {args:Array Value} {K:Value->World->Prop} (hr:(execOp a.eval o).run P w= .ok (.enter f args) w') (h:Calls P f args w' fun e w''=> ∃v,e= .returned v/\K v w''):ahO P o a w K:=by unfold ahO;rw[hr];exact h
end
end Go.Proofs.YtaikibfkggglgaaGreatDoor
namespace Go.Proofs.YtaikibfkggglgaaGreatDoor
open Go.RowKit Go.Rent Go.Tp Go.Conc
theorem alu (V:BkV) (B:Bk) (hG:Good B) (most:Bool) {w:World} (hs:aB w V B) (k:Nat) (hk:(k:Int)<B.hours) (u:World) (hu:Below w.heap.size w u):
  Calls tP 100 #[V.val B,.int .i64 (k:Int),.bool most] u fun e u'=> ∃ea ec,e= .returned (.slice ea B.pairs.length ec)/\SlI u' ea (aey B most k B.pairs.length)/\Below u.heap.size u u':=
 (c60 V B most k u (hs.below hu (nR _)) hG hk).mono fun _ _ ⟨v,e1,ho,hb⟩=>by
  obtain⟨ca,cc,e2,h⟩:=aeU (by simp[aey]) ho;subst e2;exact⟨ca,cc,e1,h,hb⟩
theorem alJ (B:Bk) (hB:B.Fine) (most:Bool) (h k:Nat):0<=trk (aey B most h B.pairs.length) k/\trk (aey B most h B.pairs.length) k<=5:=by
 by_cases hk:k<B.pairs.length
 ·rw[ae4 B most h hk];exact Gj B hB most h k
 ·unfold trk;rw[lD,List.getElem?_eq_none (by simp[aey];omega)];simp
theorem alx (V:BkV) (B:Bk) (hB:B.Fine) (most:Bool) (k:Nat) {w:World} (hat:bT w V B) (xs:List Int) (xa:Option Addr) (xc:Nat) (hx:SlI w xa xs) (hxl:xs.length=B.links.length) (hT0: ∀k,0<=trk xs k/\trk xs k<=20) (ea:Option Addr) (ec:Nat) (u:World) (hu:Below w.heap.size w u) (he:SlI u ea (aey B most k B.pairs.length)):
  Calls tP 122 #[V.val B,.slice xa B.links.length xc,.slice ea B.pairs.length ec] u fun e u'=> ∃g,e= .returned (.slice (some ⟨g,0,none⟩) B.links.length B.links.length)/\u.heap.size<=g/\(∀j,j<B.links.length->u'.cell? ⟨g,j,none⟩=some (.int .i64 (B.inn (trk xs) most k j)))/\Below u.heap.size u u':=
 (c59 V B hB xs _ xa ea xc ec u (hat.below hu (nR _)) (hx.below hu (nR _)) hxl he (by simp[aey]) hT0 (alJ B hB most k)).mono fun _ _ ⟨g,e1,hg,hc,hb⟩=>⟨g,e1,hg,by rw[alG] at hc;exact hc,hb⟩
theorem LoR.congr {w:World} {la pa:Option Addr} {B:Bk} {lc pc:Nat} {hours towns:Value} {f g:Nat->Int} {wr:World} (h:LoR w la pa B lc pc hours towns f wr) (e: ∀j,j<B.links.length->f j=g j):LoR w la pa B lc pc hours towns g wr:=
 ⟨h.below,h.size,h.b0,h.b1,h.b2,h.b3,fun j hj=>by rw[<-e j hj];exact h.out j hj⟩
theorem c75 (V:BkV) (B:Bk) (hG:Good B) (xs:List Int) (xa:Option Addr) (xc:Nat) (w:World) (hs:aB w V B) (hx:SlI w xa xs) (hxl:xs.length=B.links.length) (hT0: ∀k,0<=trk xs k/\trk xs k<=20):
  Calls tP 120 #[V.val B,.slice xa B.links.length xc] w fun e w'=> ∃g,e= .returned (.slice (some ⟨g,0,none⟩) B.links.length B.links.length)/\w.heap.size<=g/\(∀j,j<B.links.length->w'.cell? ⟨g,j,none⟩=some (.int .i64 (aZ B (trk xs) j)))/\Below w.heap.size w w':=by
 have hh:=hG.fine.hours;have hl:=hG.fine.links;have hmk:=ZV B.links.length (by omega);have HC60:Hid (∀(k:Nat),(k:Int)<B.hours-> ∀u,Below w.heap.size w u->Calls tP 100 #[V.val B,.int .i64 (k:Int),.bool true] u _):=lH (fun k hk u hu=>alu V B hG true hs k hk u hu);have HC59:Hid (∀(k:Nat) ea ec u,Below w.heap.size w u->SlI u ea (aey B true k B.pairs.length)->Calls tP 122 #[V.val B,.slice xa B.links.length xc,.slice ea B.pairs.length ec] u _):=lH (fun k ea ec u hu he=>alx V B hG.fine true k hs.at xs xa xc hx hxl hT0 ea ec u hu he);have HPk:Hid (∀k j,bW B (trk xs) (k+1) j=max (bW B (trk xs) k j) (B.inn (trk xs) true k j)):=lH fun k j=>rfl;have HP0:Hid (bW B (trk xs) 0=fun _=>0):=lH (by funext j;rfl);have HPe:Hid (∀j,aZ B (trk xs) j=bW B (trk xs) B.hours.toNat j):=lH fun j=>rfl;generalize aZ B (trk xs)=PkV at *;generalize bW B (trk xs)=P at *;have HH:=lH hh;have HL:=lH hl;obtain⟨ta,la,pa,tc,lc,pc⟩:=V;simp only[BkV.val] at *;clear hs hx hxl hT0 hG hh hl;go_enter Tryz.func120,Tryz.ntmps120
 go_wp2_with fail
 go_loopw [6] (fun i wr=> ∃k:Nat,(k:Int)<=B.hours/\i= .int .i64 (k:Int)/\LoR w la pa B lc pc (.int .i64 B.hours) (.slice ta B.towns.length tc) (P k) wr) (fun i _=>B.hours.toNat-(intOf i).toNat)
 case atStart=>
  refine⟨0,by have:=HH.out;omega,rfl,⟨(((bR _ _).alloc (nR _) _).alloc (by simp) _),by simp,by go_simp,by go_simp,by go_simp,by go_simp,fun j hj=> ?_⟩⟩;exact⟨by go_simp;rw[HP0.out];exact alE hj,by go_simp⟩
 case round=>
  obtain⟨k,hk,rfl,hR⟩:=hrel;have hh:=HH.out;have HR:=lH hR;clear hR;have p0:=HR.out.b0;by_cases hlt:(k:Int)<B.hours
  ·have hW:Below wr.heap.size wr wr.drew:=(bR _ _).drew;have HC: ∀u,Below wr.heap.size wr u->u.cell? ⟨w.heap.size,0,none⟩=some (.int .i64 B.hours)/\u.cell? ⟨w.heap.size,1,none⟩=some (.slice ta B.towns.length tc)/\u.cell? ⟨w.heap.size,2,none⟩=some (.slice la B.links.length lc)/\u.cell? ⟨w.heap.size,3,none⟩=some (.slice pa B.pairs.length pc):=fun u hu=>⟨(HR.out.step hu).b0,(HR.out.step hu).b1,(HR.out.step hu).b2,(HR.out.step hu).b3⟩;have H59:=HC59.out k;have hpk:=HPk.out k;generalize B.inn (trk xs) true k=f at *;have HPk1:=lH hpk;clear hpk
   go_wp2_with fail
   refine aif 7 7 (fun u=>Below wr.heap.size wr u) (by kernel_rfl) ?_;refine ahN 0 (.agg #[.int .i64 B.hours,.slice ta B.towns.length tc,.slice la B.links.length lc,.slice pa B.pairs.length pc]) hW ?_ (hr:=fun u hu=>by obtain⟨c0,c1,c2,c3⟩:=HC u hu;go_simp);refine ahN 1 (.slice xa B.links.length xc) hW ?_ (hr:=fun u hu=>by go_simp);refine ahN 2 (.agg #[.int .i64 B.hours,.slice ta B.towns.length tc,.slice la B.links.length lc,.slice pa B.pairs.length pc]) hW ?_ (hr:=fun u hu=>by obtain⟨c0,c1,c2,c3⟩:=HC u hu;go_simp);refine ahN 3 (.int .i64 (k:Int)) hW ?_ (hr:=fun u hu=>by go_simp);refine ahQ 4 (h:= ?_);refine ahW (f:=100) (args:= #[.agg #[.int .i64 B.hours,.slice ta B.towns.length tc,.slice la B.links.length lc,.slice pa B.pairs.length pc],.int .i64 (k:Int),.bool true]) (w':=wr.drew) (by go_simp) ((HC60.out k hlt wr.drew (HR.out.below.trans (hW.mono HR.out.below.size))).mono ?_);rintro e u1 ⟨ea,ec,rfl,he,hb1⟩;have hs1:=hW.trans (hb1.mono hW.size);refine⟨_,rfl,fun _=>hs1, ?_⟩;refine ahQ 5 (h:= ?_);refine ahW (f:=122) (args:= #[.agg #[.int .i64 B.hours,.slice ta B.towns.length tc,.slice la B.links.length lc,.slice pa B.pairs.length pc],.slice xa B.links.length xc,.slice ea B.pairs.length ec]) (w':=u1) (by go_simp) ((H59 ea ec u1 (HR.out.below.trans (hs1.mono HR.out.below.size)) he).mono ?_);rintro e u2 ⟨g,rfl,hg,hcell,hb2⟩;have hs2:=hs1.trans (hb2.mono hs1.size);refine⟨_,rfl,fun _=>hs2, ?_⟩;refine ahN 6 (.slice (some ⟨g,0,none⟩) B.links.length B.links.length) hs2 ?_ (hr:=fun u hu=>by go_simp);refine ahZ ?_;go_simp;have HR2:=lH (HR.out.step hs2);have hgw:w.heap.size+1<g:=by have h1:=HR.out.size;have h2:=hs1.size;omega
   have HG:=lH hcell;have HGW:=lH hgw;clear hcell hs2 HC hW he hb2 hs1 hb1 hg p0 HR hgw
   go_wp2_with fail
   go_loopw [8] (fun i wr=> ∃j:Nat,j<=B.links.length/\i= .int .i64 (j:Int)/\LoR w la pa B lc pc (.int .i64 B.hours) (.slice ta B.towns.length tc) (fun m=>if m<j then P (k+1) m else P k m) wr/\ ∀m,m<B.links.length->wr.cell? ⟨g,m,none⟩=some (.int .i64 (f m))) (fun i _=>B.links.length-(intOf i).toNat)
   case atStart=>exact⟨0,Nat.zero_le _,rfl,HR2.out.congr (fun j _=>by rw[if_neg (by omega)]),HG.out⟩
   case round=>
    obtain⟨j,hj,rfl,hR,hcell⟩:=hrel;have HR:=lH hR;have HG3:=lH hcell;clear hR hcell;have hgw:=HGW.out;have hl:=HL.out;by_cases hlj:j<B.links.length
    ·have hlj2:(j:Int)<(B.links.length:Int):=by omega
     obtain⟨o1,o2⟩:=HR.out.out j hlj;rw[if_neg (Nat.lt_irrefl j)] at o1;have g1:=HG3.out j hlj;have hgz:=wBk _ _ g1;have hmx:=HPk1.out j;have HX:Hid (∀v,v=P (k+1) j-> ∀m,m<B.links.length->fup (fun m=>if m<j then P (k+1) m else P k m) j v m=if m<j+1 then P (k+1) m else P k m):=lH fun v hv m _=>by
      unfold fup;by_cases e:m=j
      ·subst e;rw[if_pos rfl,if_pos (by omega),hv]
      ·rw[if_neg e]
       show (if m<j then P (k+1) m else P k m)=_
       by_cases e2:m<j
       ·rw[if_pos e2,if_pos (by omega)]
       ·rw[if_neg e2,if_neg (by omega)]
     generalize hq:P (k+1) j=q at *;generalize P k j=y at *;generalize hf:f j=z at *;have hm:(if y<z then z else y)=q:=by rw[hmx];split<;>omega
     have HM:=lH hmx;clear hmx hf
     go_wp2_with fail
     refine ahn 12 12 (by kernel_rfl) ?_
     change LaB _ _ _ _ _ _ _ (World.drew wr)
     refine ag5 0 (.slice (some ⟨w.heap.size+1,0,none⟩) B.links.length B.links.length) ?_ (hr:=by go_simp);refine ag5 1 (.int .i64 (j:Int)) ?_ (hr:=by go_simp);refine ag5 2 (.slice (some ⟨w.heap.size+1,0,none⟩) B.links.length B.links.length) ?_ (hr:=by go_simp);refine ag5 3 (.int .i64 (j:Int)) ?_ (hr:=by go_simp);refine ag5 4 (.pointer (some ⟨w.heap.size+1,j,none⟩)) ?_ (hr:=by go_simp);refine ag5 5 (.int .i64 y) ?_ (hr:=by go_simp);refine ag5 6 (.slice (some ⟨g,0,none⟩) B.links.length B.links.length) ?_ (hr:=by go_simp);refine ag5 7 (.int .i64 (j:Int)) ?_ (hr:=by go_simp);refine ag5 8 (.pointer (some ⟨g,j,none⟩)) ?_ (hr:=by go_simp);refine ag5 9 (.int .i64 z) ?_ (hr:=by go_simp);refine ag5 10 (.int .i64 q) ?_ (hr:=by go_simp);refine ag5 11 (.pointer (some ⟨w.heap.size+1,j,none⟩)) ?_ (hr:=by go_simp);simp only[Act.put,List.setIfInBounds_toArray];refine⟨by kernel_rfl,by kernel_rfl,wpOp_step rfl fun K hK=> ?_⟩;go_simp;refine hK _ _ ?_;clear hK;have HR6:=lH ((HR.out.set j q).congr (HX.out q rfl)).drew;have HG6:Hid (∀m,m<B.links.length->(wr.setCell ⟨w.heap.size+1,j,none⟩ (.int .i64 q)).drew.cell? ⟨g,m,none⟩=some (.int .i64 (f m))):=lH fun m hm=>(wF _ _ _ _ (show w.heap.size+1≠g by omega)).trans (HG3.out m hm);go_wp2;go_roundw
     case rel=>exact⟨j+1,by omega,by go_num,HR6.out,HG6.out⟩
     case measure=>simp[intOf];omega
    ·have hlj2: ¬(j:Int)<(B.links.length:Int):=by omega
     have HR7:=lH (HR.out.congr (g:=P (k+1)) (fun m hm=>by rw[if_pos (by omega)]));go_wp2;go_roundw
     case rel=>exact⟨k+1,by omega,by go_num,HR7.out⟩
     case measure=>simp[intOf];omega
  ·have hke:B.hours.toNat=k:=by omega
   have HF:Hid (∀j,j<B.links.length->wr.cell? ⟨w.heap.size+1,j,none⟩=some (.int .i64 (PkV j))):=lH fun j hj=>by rw[HPe.out,hke];exact(HR.out.out j hj).1
   go_wp2;go_ret;exact⟨w.heap.size+1,rfl,by omega,HF.out,HR.out.below⟩
theorem anc (l m:List Int):ints (l++m)=ints l++ints m:=by unfold ints;rw[List.map_append]
theorem anr {w:World} (k:Nat) (hk:k<=1000):(w.alloc (.cells (madeCells #[Value.int .i64 0] k) 3)).ownsRow w.heap.size 3 1 (.slice (some ⟨w.heap.size,0,none⟩) k k) k (ints (List.replicate k 0)):=by
 refine⟨by simp[ints],.inr ⟨w.heap.size,k,_,rfl,nR _,heap_alloc_new w _,nR _,by unfold maxLen;omega,by simp[size_madeCells], ?_⟩⟩;refine List.ext_getElem? fun j=> ?_;rw[Nat.mul_one,List.getElem?_take];unfold ints;rw[List.getElem?_map,List.getElem?_replicate];by_cases hj:j<k
 ·rw[if_pos hj,if_pos hj,Array.getElem?_toList,alE hj];rfl
 ·rw[if_neg hj,if_neg hj];rfl
theorem ant {B:Bk} {l:List Int}:ku B (amD B l)++l=jC B (amD B l):=by
 unfold jC amD;rw[List.drop_left' (by simp)]
theorem amZ {B:Bk} {l:List Int} (h: ∀i,0<=trk l i/\trk l i<=5) (k:Nat):0<=trk (amD B l) k/\trk (amD B l) k<=5:=by
 unfold amD trk;rw[lD];by_cases e:k<B.spokes
 ·rw[List.getElem?_append_left (by simpa using e),List.getElem?_replicate,if_pos e];simp
 ·rw[List.getElem?_append_right (by simpa using e)];have:=h (k-(List.replicate B.spokes (0 :Int)).length);unfold trk at this;rw[lD] at this;exact this
theorem amL {w u:World} {V:BkV} {B:Bk} (h:Below (w.heap.size+1) (w.alloc (.cells #[.int .i64 B.hours,.slice V.ta B.towns.length V.tc,.slice V.la B.links.length V.lc,.slice V.pa B.pairs.length V.pc] 26)) u):
  u.cell? ⟨w.heap.size,0,none⟩=some (.int .i64 B.hours)/\u.cell? ⟨w.heap.size,1,none⟩=some (.slice V.ta B.towns.length V.tc)/\u.cell? ⟨w.heap.size,2,none⟩=some (.slice V.la B.links.length V.lc)/\u.cell? ⟨w.heap.size,3,none⟩=some (.slice V.pa B.pairs.length V.pc):=by
 obtain⟨hc,_⟩:=ak h;refine⟨?_, ?_, ?_, ?_⟩<;>(rw[hc _ _ (by omega)];go_simp)
theorem r94 (V:BkV) (B:Bk) (hG:Good B) (l:List Int) (hl:l.length=B.links.length-B.spokes) (h5: ∀i,0<=trk l i/\trk l i<=5) (ra:Option Addr) (rc:Nat) (w:World) (hs:aB w V B) (hr:Rw w ra rc l):
  Calls tP 94 #[V.val B,.slice ra l.length rc] w fun e w'=> ∃v,e= .returned v/\w'.ownsRow w.heap.size 3 1 v B.links.length (ints (jC B (amD B l)))/\Below w.heap.size w w':=by
 have hll:=hG.fine.links;have htt:=hG.fine.towns;have hsp:B.spokes=B.towns.length-1:=rfl;have hwl:(amD B l).length=B.links.length:=by unfold amD;simp;omega
 have HMk:=lH (ZV (B.towns.length-1) (by omega));have HOm:Hid (∀u:World,(u.alloc (.cells (madeCells #[Value.int .i64 0] (B.towns.length-1)) 3)).ownsRow u.heap.size 3 1 (.slice (some ⟨u.heap.size,0,none⟩) (B.towns.length-1) (B.towns.length-1)) (B.towns.length-1) (ints (List.replicate (B.towns.length-1) 0))):=lH fun u=>anr _ (by omega);have HPk:Hid (∀(xa:Option Addr) (xc:Nat) (u:World),Below w.heap.size w u->SlI u xa (amD B l)->Calls tP 120 #[V.val B,.slice xa B.links.length xc] u _):=lH fun xa xc u hu hx=>c75 V B hG (amD B l) xa xc u (hs.below hu (nR _)) hx hwl (fun k=>by have:=amZ h5 (B:=B) k;omega);have HW:Hid (amD B l=List.replicate (B.towns.length-1) 0++l):=lH rfl;have HHub:Hid (∀j,j<B.towns.length-1->(ku B (amD B l))[j]? =some (aZ B (trk (amD B l)) j)):=lH fun j hj=>by unfold ku;rw[List.getElem?_map,List.getElem?_range (by rw[hsp];exact hj)];rfl
 have HHl:Hid ((ku B (amD B l)).length=B.towns.length-1):=lH (by unfold ku;simp;rfl);have HF:Hid (ints (jC B (amD B l))=ints (ku B (amD B l))++ints l):=lH (by rw[<-ant,anc]);rw[HF.out];have HR:=lH hr;have hll2:(B.towns.length-1)+l.length=B.links.length:=by omega
 have ht1:1<=B.towns.length/\B.towns.length<=4:=by omega
 have hl6:B.links.length<=6:=hll.2;generalize ku B (amD B l)=hub at *;generalize aZ B (trk (amD B l))=P at *;generalize amD B l=W at *;have HLs:=lH hll2;have hln:l.length<=6:=by omega
 obtain⟨ta,la,pa,tc,lc,pc⟩:=V;simp only[BkV.val] at *;clear hG hs hr hl h5 hll htt hsp hwl HF hll2;obtain⟨i0,hi,hz0,hz1i,hz2⟩:=info_parts info3;go_enter Tryz.func94,Tryz.ntmps94;have hmk:=HMk.out
 go_wp2_with fail
 refine(c73 B.hours ta B.towns.length tc la B.links.length lc pa B.pairs.length pc _ ht1.1 (by omega)).mono ?_;rintro e w1 ⟨rfl,hb1⟩;have HB1:Hid (Below w.heap.size w w1):=lH (((bR _ _).alloc (nR _) _).trans (hb1.mono (by simp)));have HX1:=lH (amL (V:=⟨ta,la,pa,tc,lc,pc⟩) (by simpa using hb1));have HO1:=lH (HOm.out w1);have HBa:Hid (Below w1.heap.size w1 (w1.alloc (.cells (madeCells #[Value.int .i64 0] (B.towns.length-1)) 3))):=lH ((bR _ _).alloc (nR _) _);have HR1:=lH (HR.out.keep (Kp.below (HB1.out.trans (HBa.out.mono HB1.out.size))));clear hb1
 go_wp2_with (at_builtin;refine amW rfl _ _ rfl rfl HO1.out HBa.out rfl HR1.out (by omega) (by omega) ?_)
 intro v2 w2 ho2 hb2 _;have hrow:w2.ownsRow w1.heap.size 3 1 v2 B.links.length (ints W):=by rw[HW.out,anc,<-HLs.out];exact ho2
 obtain⟨a2,c2,rfl,hsl⟩:=aeU (by rw[HW.out,<-HLs.out];simp) hrow;have HB2:=lH (HB1.out.trans (hb2.mono HB1.out.size));have HC:=lH (HPk.out a2 c2 w2 HB2.out hsl);obtain⟨x0,x1,x2,x3⟩:=HX1.out;have hz1:=wBk _ _ x0;have y0:=cell_below hb2 x0 (nR _);have y1:=cell_below hb2 x1 (nR _);have y2:=cell_below hb2 x2 (nR _);have y3:=cell_below hb2 x3 (nR _);clear ho2 hb2 hrow hsl x0 x1 x2 x3
 go_wp2_with fail
 refine HC.out.mono ?_;rintro e w3 ⟨g,rfl,hg,hcell,hb3⟩;have HB3:=lH (HB2.out.trans (hb3.mono HB2.out.size));have z0:=cell_below hb3 y0 (nR _);have z1:=cell_below hb3 y1 (nR _);have z2:=cell_below hb3 y2 (nR _);have z3:=cell_below hb3 y3 (nR _);have hzw:=wBk _ _ z0;have HG:=lH hcell;clear hcell hb3 y0 y1 y2 y3 hg
 go_wp2_with fail
 refine(c73 B.hours ta B.towns.length tc la B.links.length lc pa B.pairs.length pc _ ht1.1 (by omega)).mono ?_;rintro e w4 ⟨rfl,hb4⟩;have HB4:Hid (Below w3.heap.size w3 w4):=lH (((bR _ _).alloc (nR _) _).trans (hb4.mono (by simp)));have HO4:Hid (w4.ownsRow w3.heap.size 3 1 (.slice (some ⟨w3.heap.size,0,none⟩) 0 0) 0 []):=lH (anb (World.ownsRow_made w3 #[] 0 (nR _) (by decide) rfl) hb4);have hle:((B.towns.length-1 :Nat):Int)<=(B.links.length:Int):=by have:=HLs.out;omega
 have HN:Hid (∀(j:Nat) (u:Value),(ints hub)[j]? =some u->w4.cell? ((⟨g,0,none⟩:Addr).add j)=some u):=lH fun j u hj=>by
  have hjl:=(List.getElem?_eq_some_iff.1 hj).1;have hjn:j<B.towns.length-1:=by have:=HHl.out;unfold ints at hjl;rw[List.length_map,this] at hjl;exact hjl
  unfold ints at hj;rw[List.getElem?_map,HHub.out j hjn] at hj
  cases hj
  rw[Bz,Nat.zero_add];exact cell_below HB4.out (HG.out j (by have:=HLs.out;omega)) (nR _)
 have HNl:Hid ((ints hub).length=(B.towns.length-1)*1):=lH (by unfold ints;rw[List.length_map,HHl.out,Nat.mul_one]);clear hb4 z0 z1 z2 z3
 go_wp2_with (at_builtin;refine wpList_append_own _ rfl _ _ 33 rfl w3.heap.size 3 i0 (.int .i64 0) 1 8 Tryz.underlying33 hi hz0 hz1i hz2 rfl (by decide) _ _ _ rfl HO4.out ⟨g,0,none⟩ (B.towns.length-1) B.links.length (ints hub) rfl HNl.out HN.out EF (by unfold maxLen;omega) (by omega) HB4.out.size ?_)
 intro v5 w5 ho5 hg5 _;have HB5:=lH (HB4.out.grown hg5 HB4.out.size (fun j hj=>(HO4.out.lt j hj).1));have HO5:Hid (w5.ownsRow w3.heap.size 3 1 v5 (B.towns.length-1) (ints hub)):=lH (by simpa using ho5);have HR5:=lH (HR.out.keep (Kp.below (HB3.out.trans (HB5.out.mono HB3.out.size))));clear ho5 hg5
 go_wp2_with (at_builtin;refine amW rfl _ _ rfl rfl HO5.out HB5.out rfl HR5.out (by omega) (by omega) ?_)
 intro v6 w6 ho6 hb6 _;rw[HLs.out] at ho6;have HO6:=lH (ho6.base HB3.out.size);have HB6:=lH (HB3.out.trans (hb6.mono HB3.out.size));clear ho6 hb6;go_wp2;go_ret;exact⟨v6,rfl,HO6.out,HB6.out⟩
end Go.Proofs.YtaikibfkggglgaaGreatDoor
