/- A part of the proof of a law; no conditions of its own. -/
import Derived.Test.YtaikibfkggglgaaDoorTrunks01
import Derived.Laws.MakeOwn
import Derived.Laws.AppendOwn
set_option maxRecDepth 100000
open Nat renaming le_refl→nR
open Go.Lib renaming hid→lH
open Go.RowKit.Below renaming refl→bR
open Go.Proofs.Tryd renaming prog→tP
open List renaming getElem?_eq_getElem→lG
open Array renaming getElem?_eq_some_iff→aS
open Go.World renaming cell?_setCell_far→wF
set_option maxHeartbeats 4000000
namespace Go.Proofs.YtaikibfkggglgaaDoor
open Go.RowKit Go.Rent Go.Tp Go.Conc
theorem alE {n j:Nat} (hj:j<n):(madeCells #[.int .i64 0] n)[j]? =some (.int .i64 0):=by
 rw[Array.getElem?_eq_getElem (by rw[size_madeCells];exact hj)];simp[madeCells,Nat.mod_one]
theorem LoR.drew {w:World} {la pa:Option Addr} {B:Bk} {lc pc:Nat} {hours towns:Value} {f:Nat->Int} {wr:World} (h:LoR w la pa B lc pc hours towns f wr):LoR w la pa B lc pc hours towns f wr.drew:=⟨h.below.drew,h.size,h.b0,h.b1,h.b2,h.b3,h.out⟩
theorem c59 (V:BkV) (B:Bk) (hB:B.Fine) (xs cs:List Int) (xa ca:Option Addr) (xc cc:Nat) (w:World) (hat:bT w V B) (hx:SlI w xa xs) (hxl:xs.length=B.links.length) (hc:SlI w ca cs) (hcl:cs.length=B.pairs.length) (hT0: ∀k,0<=trk xs k/\trk xs k<=20) (hcb: ∀k,0<=trk cs k/\trk cs k<=5):
  Calls tP 59 #[V.val B,.slice xa B.links.length xc,.slice ca B.pairs.length cc] w fun e w'=> ∃g,e= .returned (.slice (some ⟨g,0,none⟩) B.links.length B.links.length)/\w.heap.size<=g/\(∀j,j<B.links.length->w'.cell? ⟨g,j,none⟩=some (.int .i64 (B.load (trk xs) (trk cs) j)))/\Below w.heap.size w w':=by
 obtain⟨ta,la,pa,tc,lc,pc⟩:=V;have hl:=hB.links;have ht:=hB.towns;have hp:=hB.pairs;unfold Bk.spokes at hl;have hmk:=ZV B.links.length (by omega);go_enter Tryd.func59,Tryd.ntmps59
 go_wp2_with fail
 go_loopw [8] (fun i wr=> ∃k:Nat,k<=B.pairs.length/\i= .int .i64 (k:Int)/\LoR w la pa B lc pc (.int .i64 B.hours) (.slice ta B.towns.length tc) (B.loadTo (trk xs) (trk cs) k) wr) (fun i _=>B.pairs.length-(intOf i).toNat)
 case atStart=>
  refine⟨0,Nat.zero_le _,rfl,⟨(((bR _ _).alloc (nR _) _).alloc (by simp) _),by simp,by go_simp,by go_simp,by go_simp,by go_simp,fun j hj=> ?_⟩⟩;exact⟨by go_simp;simp only[Bk.loadTo];exact alE hj,by go_simp⟩
 case round=>
  obtain⟨k,hk,rfl,hR⟩:=hrel;have hy3:=hR.b3;by_cases hlt:k<B.pairs.length
  ·have hL:B.pairs[k]? =some B.pairs[k]:=lG hlt;obtain⟨he1,he2,he3⟩:=hB.ends k hlt;have hpo:B.pone k=B.pairs[k].one:=by unfold Bk.pone;rw[hL];rfl
   have hpt:B.ptwo k=B.pairs[k].two:=by unfold Bk.ptwo;rw[hL];rfl
   obtain⟨pb,po,sa,sc,g1,g2,g3,g4,_⟩:=(hat.below hR.below (nR _)).pairs _ _ hL;simp only at g1;subst g1;rw[<-hpo] at g2;rw[<-hpt] at g3;generalize B.pairs[k].calls.length=cn at g4;have hs:=hR.size;obtain⟨cb,co,rfl,hcc⟩:=hc k _ (lG (show k<cs.length by omega));rw[afb (by omega)] at hcc;have hcw:=cell_below hR.below hcc (nR _);have hf:B.loadTo (trk xs) (trk cs) (k+1)=B.go (trk xs) (trk cs k) (B.pone k) (B.ptwo k) (B.loadTo (trk xs) (trk cs) k):=rfl;have hfb:=vJ B hB (trk xs) (trk cs) (fun j=>(hT0 j).1) (fun i _=>hcb i) k (by omega);obtain⟨hc0,hc1⟩:=hcb k;generalize B.loadTo (trk xs) (trk cs) k=f at *;generalize B.pone k=a at *;generalize B.ptwo k=b at *;generalize trk cs k=n at *;have Hf:=lH hf;have Hfb:=lH hfb;have HR:=lH hR;have Hat:=lH hat;obtain⟨bj,hbj⟩: ∃j:Nat,(j:Int)=b-1:=⟨(b-1).toNat,Int.toNat_of_nonneg (by omega)⟩;have hbl:bj<B.links.length:=by omega
   have Hbt:Hid ((b-1).toNat=bj):=lH (by omega);obtain⟨o1,o2⟩:=HR.out.out bj hbl;obtain⟨fb0,fb1⟩:0<=f bj/\f bj<=30:=by have:=Hfb.out bj;omega
   have HX:=lH hx;clear hf hfb hL hpo hpt hat hc hx hR;by_cases ha:a=0
   ·subst ha
    go_wp2_with fail
    have HB2:=lH ((bR wr.heap.size wr).alloc (nR _) (.cells #[.int .i64 0,.int .i64 b,.slice sa cn sc] 67));have HR2:=lH (HR.out.step HB2.out);have p1:(wr.alloc (.cells #[.int .i64 0,.int .i64 b,.slice sa cn sc] 67)).cell? ⟨wr.heap.size,1,none⟩=some (.int .i64 b):=by go_simp
    have c3:=cell_below HB2.out hcw (nR _);have o3:=(HR2.out.out bj hbl).1;have f3:=(HR2.out.out bj hbl).2;generalize hW:wr.alloc (.cells #[.int .i64 0,.int .i64 b,.slice sa cn sc] 67)=W at *;clear hW hcw o1 o2 hy3 g2 g3 g4;have w1:IntKind.wrap .i64 (b-1)=(bj:Int):=(IntWalk.i64_in _ (by omega)).trans hbj.symm;have w2:IntKind.wrap .i64 (f bj+n)=f bj+n:=IntWalk.i64_in _ (by omega);have hbl2:(bj:Int)<(B.links.length:Int):=by omega
    have hkl2:(k:Int)<(B.pairs.length:Int):=by omega
    have HBJ:=lH hbj;clear hbj;refine ahn 16 16 (by kernel_rfl) ?_
    change LaB _ _ _ _ _ _ _ W.drew
    refine ag5 0 (.slice (some ⟨w.heap.size+1,0,none⟩) B.links.length B.links.length) ?_ (hr:=by go_simp);refine ag5 1 (.pointer (some ⟨wr.heap.size,1,none⟩)) ?_ (hr:=by go_simp);refine ag5 2 (.int .i64 b) ?_ (hr:=by go_simp);refine ag5 3 (.int .i64 (bj:Int)) ?_ (hr:=by go_simp);refine ag5 4 (.slice (some ⟨w.heap.size+1,0,none⟩) B.links.length B.links.length) ?_ (hr:=by go_simp);refine ag5 5 (.pointer (some ⟨wr.heap.size,1,none⟩)) ?_ (hr:=by go_simp);refine ag5 6 (.int .i64 b) ?_ (hr:=by go_simp);refine ag5 7 (.int .i64 (bj:Int)) ?_ (hr:=by go_simp);refine ag5 8 (.pointer (some ⟨w.heap.size+1,bj,none⟩)) ?_ (hr:=by go_simp);refine ag5 9 (.int .i64 (f bj)) ?_ (hr:=by go_simp);refine ag5 10 (.slice (some ⟨cb,co,none⟩) B.pairs.length cc) ?_ (hr:=by go_simp);refine ag5 11 (.int .i64 (k:Int)) ?_ (hr:=by go_simp);refine ag5 12 (.pointer (some ⟨cb,co+k,none⟩)) ?_ (hr:=by go_simp);refine ag5 13 (.int .i64 n) ?_ (hr:=by go_simp);refine ag5 14 (.int .i64 (f bj+n)) ?_ (hr:=by go_simp);refine ag5 15 (.pointer (some ⟨w.heap.size+1,bj,none⟩)) ?_ (hr:=by go_simp);simp only[Act.put,List.setIfInBounds_toArray];refine⟨by kernel_rfl,by kernel_rfl,wpOp_step rfl fun K hK=> ?_⟩;go_simp;refine hK _ _ ?_;clear hK;have HR6:=lH (HR2.out.set bj (f bj+n));generalize hW6:W.setCell ⟨w.heap.size+1,bj,none⟩ (.int .i64 (f bj+n))=W6 at *;clear hW6;go_wp2;go_roundw
    case rel=>exact⟨k+1,by omega,by go_num,by
     rw[Hf.out];unfold Bk.go;rw[if_pos rfl,Hbt.out];exact HR6.out.drew⟩
    case measure=>simp[intOf];omega
   ·have ha1:1<=a:=by omega
    obtain⟨ajj,haj⟩: ∃j:Nat,(j:Int)=a-1:=⟨(a-1).toNat,Int.toNat_of_nonneg (by omega)⟩;have hal:ajj<B.links.length:=by omega
    have Hat1:Hid ((a-1).toNat=ajj):=lH (by omega);have hdb:=pF B hB a b;have hs0:w.heap.size<wr.heap.size:=by omega
    have hcbz:=World.block_lt_of_cell? _ _ hcw;have hx10:=HR.out.b0;have hx11:=HR.out.b1;have hx12:=HR.out.b2;have HB2:=lH ((bR wr.heap.size wr).alloc (nR _) (.cells #[.int .i64 a,.int .i64 b,.slice sa cn sc] 67));have HR2:=lH (HR.out.step HB2.out);have HBJ:=lH hbj;have HAJ:=lH haj;clear hbj haj
    go_wp2_with fail
    refine(c94 ⟨ta,la,some ⟨pb,po,none⟩,tc,lc,pc⟩ B hB a b _ (Hat.out.below HR2.out.below (nR _))).mono ?_;rintro e w3 ⟨rfl,hb3⟩;have HR3:=lH (HR2.out.step hb3);have q0:w3.cell? ⟨wr.heap.size,0,none⟩=some (.int .i64 a):=by rw[(ak hb3).1 _ _ (by simp)];go_simp
    have q1:w3.cell? ⟨wr.heap.size,1,none⟩=some (.int .i64 b):=by rw[(ak hb3).1 _ _ (by simp)];go_simp
    have hcw3:=cell_below HR3.out.below hcc (nR _);clear hb3 hx10 hx11 hx12 hcw;unfold Bk.go at Hf;rw[if_neg ha] at Hf;generalize B.direct a b=dv at *;obtain⟨oa,oaf⟩:=HR3.out.out ajj hal;obtain⟨fa0,fa1⟩:0<=f ajj/\f ajj<=30:=by have:=Hfb.out ajj;omega
    have w1:IntKind.wrap .i64 (b-1)=(bj:Int):=(IntWalk.i64_in _ (by omega)).trans HBJ.out.symm;have w2:IntKind.wrap .i64 (a-1)=(ajj:Int):=(IntWalk.i64_in _ (by omega)).trans HAJ.out.symm;have hba: ¬bj=ajj:=by have h1:=HBJ.out;have h2:=HAJ.out;omega
    have hbl2:(bj:Int)<(B.links.length:Int):=by omega
    have hal2:(ajj:Int)<(B.links.length:Int):=by omega
    have hkl2:(k:Int)<(B.pairs.length:Int):=by omega
    rcases hdb with hdv |⟨hd0,hd1⟩
    ·subst hdv;have w3n:IntKind.wrap .i64 (f ajj+n)=f ajj+n:=IntWalk.i64_in _ (by omega);have w4n:IntKind.wrap .i64 (f bj+n)=f bj+n:=IntWalk.i64_in _ (by omega)
     go_wp2_with fail
     refine ahn 13 13 (by kernel_rfl) ?_
     change LaB _ _ _ _ _ _ _ (World.drew w3)
     refine ag5 0 (.slice (some ⟨w.heap.size+1,0,none⟩) B.links.length B.links.length) ?_ (hr:=by go_simp);refine ag5 1 (.pointer (some ⟨wr.heap.size,0,none⟩)) ?_ (hr:=by go_simp);refine ag5 2 (.int .i64 a) ?_ (hr:=by go_simp);refine ag5 3 (.int .i64 (ajj:Int)) ?_ (hr:=by go_simp);refine ag5 4 (.slice (some ⟨w.heap.size+1,0,none⟩) B.links.length B.links.length) ?_ (hr:=by go_simp);refine ag5 5 (.pointer (some ⟨wr.heap.size,0,none⟩)) ?_ (hr:=by go_simp);refine ag5 6 (.int .i64 a) ?_ (hr:=by go_simp);refine ag5 7 (.int .i64 (ajj:Int)) ?_ (hr:=by go_simp);refine ag5 8 (.pointer (some ⟨w.heap.size+1,ajj,none⟩)) ?_ (hr:=by go_simp);refine ag5 9 (.int .i64 (f ajj)) ?_ (hr:=by go_simp);refine ag5 10 (.int .i64 n) ?_ (hr:=by go_simp);refine ag5 11 (.int .i64 (f ajj+n)) ?_ (hr:=by go_simp);refine ag5 12 (.pointer (some ⟨w.heap.size+1,ajj,none⟩)) ?_ (hr:=by go_simp);simp only[Act.put,List.setIfInBounds_toArray];refine⟨by kernel_rfl,by kernel_rfl,wpOp_step rfl fun K hK=> ?_⟩;go_simp;refine hK _ _ ?_;clear hK;have HR4:=lH (HR3.out.set ajj (f ajj+n)).drew;have q1b:(w3.setCell ⟨w.heap.size+1,ajj,none⟩ (.int .i64 (f ajj+n))).drew.cell? ⟨wr.heap.size,1,none⟩=some (.int .i64 b):=(wF _ _ _ _ (show w.heap.size+1≠wr.heap.size by omega)).trans q1;generalize hW4:(w3.setCell ⟨w.heap.size+1,ajj,none⟩ (.int .i64 (f ajj+n))).drew=W4 at *;clear hW4 q0 q1 oa oaf;obtain⟨ob,obf⟩:=HR4.out.out bj hbl;rw[dQ _ _ hba] at ob
     go_wp2_with fail
     refine ahn 13 13 (by kernel_rfl) ?_
     change LaB _ _ _ _ _ _ _ (World.drew W4)
     refine ag5 0 (.slice (some ⟨w.heap.size+1,0,none⟩) B.links.length B.links.length) ?_ (hr:=by go_simp);refine ag5 1 (.pointer (some ⟨wr.heap.size,1,none⟩)) ?_ (hr:=by go_simp);refine ag5 2 (.int .i64 b) ?_ (hr:=by go_simp);refine ag5 3 (.int .i64 (bj:Int)) ?_ (hr:=by go_simp);refine ag5 4 (.slice (some ⟨w.heap.size+1,0,none⟩) B.links.length B.links.length) ?_ (hr:=by go_simp);refine ag5 5 (.pointer (some ⟨wr.heap.size,1,none⟩)) ?_ (hr:=by go_simp);refine ag5 6 (.int .i64 b) ?_ (hr:=by go_simp);refine ag5 7 (.int .i64 (bj:Int)) ?_ (hr:=by go_simp);refine ag5 8 (.pointer (some ⟨w.heap.size+1,bj,none⟩)) ?_ (hr:=by go_simp);refine ag5 9 (.int .i64 (f bj)) ?_ (hr:=by go_simp);refine ag5 10 (.int .i64 n) ?_ (hr:=by go_simp);refine ag5 11 (.int .i64 (f bj+n)) ?_ (hr:=by go_simp);refine ag5 12 (.pointer (some ⟨w.heap.size+1,bj,none⟩)) ?_ (hr:=by go_simp);simp only[Act.put,List.setIfInBounds_toArray];refine⟨by kernel_rfl,by kernel_rfl,wpOp_step rfl fun K hK=> ?_⟩;go_simp;refine hK _ _ ?_;clear hK;have HR6:=lH (HR4.out.set bj (f bj+n)).drew;generalize hW6:(W4.setCell ⟨w.heap.size+1,bj,none⟩ (.int .i64 (f bj+n))).drew=W6 at *;clear hW6;go_wp2;go_roundw
     case rel=>exact⟨k+1,by omega,by go_num,by
      rw[Hf.out,Hbt.out,Hat1.out,if_neg (by decide),if_neg (by decide),dQ _ _ hba,Int.sub_zero];exact HR6.out⟩
     case measure=>simp[intOf];omega
    ·unfold Bk.spokes at hd0;obtain⟨kd,rfl⟩:=Int.eq_ofNat_of_zero_le (show 0<=dv by omega);have hkl:kd<B.links.length:=by omega
     have hak: ¬ajj=kd:=by have h1:=HBJ.out;have h2:=HAJ.out;omega
     have hbk: ¬bj=kd:=by have h1:=HBJ.out;have h2:=HAJ.out;omega
     obtain⟨tb,tofs,rfl,htc⟩:=HX.out kd _ (lG (show kd<xs.length by omega));rw[afb (by omega)] at htc;have htk:=cell_below HR3.out.below htc (nR _);have hTk:=hT0 kd;obtain⟨ok,okf⟩:=HR3.out.out kd hkl;obtain⟨m,hm⟩: ∃m,m=min n (trk xs kd):=⟨_,rfl⟩;have Hf2:Hid (B.loadTo (trk xs) (trk cs) (k+1)=fup (fup (fup f kd m) ajj (f ajj+(n-m))) bj (f bj+(n-m))):=lH (by rw[Hf.out,Hbt.out,Hat1.out];dsimp only;rw[if_pos (show (0 :Int)<=(kd:Int) by omega),if_pos (show (0 :Int)<=(kd:Int) by omega),Int.toNat_natCast,<-hm,dQ _ _ hba,dQ _ _ hak,dQ _ _ hbk]);clear Hf;generalize trk xs kd=tk at *;have hmb:0<=m/\m<=n:=by omega
     have wmin:(if tk<n then tk else n)=m:=by split<;>omega
     obtain⟨ov,hov⟩: ∃ov,ov=n-m:=⟨_,rfl⟩;rw[<-hov] at Hf2;have wov:IntKind.wrap .i64 (n-m)=ov:=(IntWalk.i64_in _ (by omega)).trans hov.symm;have w3n:IntKind.wrap .i64 (f ajj+ov)=f ajj+ov:=IntWalk.i64_in _ (by omega);have w4n:IntKind.wrap .i64 (f bj+ov)=f bj+ov:=IntWalk.i64_in _ (by omega);have hkl3:(kd:Int)<(B.links.length:Int):=by omega
     have HM:=lH hm;have HOV:=lH hov;clear hm hov htc
     go_wp2_with fail
     refine ahn 12 12 (by kernel_rfl) ?_
     change LaB _ _ _ _ _ _ _ (World.drew w3)
     refine ag5 0 (.slice (some ⟨w.heap.size+1,0,none⟩) B.links.length B.links.length) ?_ (hr:=by go_simp);refine ag5 1 (.int .i64 (kd:Int)) ?_ (hr:=by go_simp);refine ag5 2 (.slice (some ⟨cb,co,none⟩) B.pairs.length cc) ?_ (hr:=by go_simp);refine ag5 3 (.int .i64 (k:Int)) ?_ (hr:=by go_simp);refine ag5 4 (.pointer (some ⟨cb,co+k,none⟩)) ?_ (hr:=by go_simp);refine ag5 5 (.int .i64 n) ?_ (hr:=by go_simp);refine ag5 6 (.slice (some ⟨tb,tofs,none⟩) B.links.length xc) ?_ (hr:=by go_simp);refine ag5 7 (.int .i64 (kd:Int)) ?_ (hr:=by go_simp);refine ag5 8 (.pointer (some ⟨tb,tofs+kd,none⟩)) ?_ (hr:=by go_simp);refine ag5 9 (.int .i64 tk) ?_ (hr:=by go_simp);refine ag5 10 (.int .i64 m) ?_ (hr:=by go_simp);refine ag5 11 (.pointer (some ⟨w.heap.size+1,kd,none⟩)) ?_ (hr:=by go_simp);simp only[Act.put,List.setIfInBounds_toArray];refine⟨by kernel_rfl,by kernel_rfl,wpOp_step rfl fun K hK=> ?_⟩;go_simp;refine hK _ _ ?_;clear hK;have HR4:=lH (HR3.out.set kd m).drew;have q0b:(w3.setCell ⟨w.heap.size+1,kd,none⟩ (.int .i64 m)).drew.cell? ⟨wr.heap.size,0,none⟩=some (.int .i64 a):=(wF _ _ _ _ (show w.heap.size+1≠wr.heap.size by omega)).trans q0;have q1b:(w3.setCell ⟨w.heap.size+1,kd,none⟩ (.int .i64 m)).drew.cell? ⟨wr.heap.size,1,none⟩=some (.int .i64 b):=(wF _ _ _ _ (show w.heap.size+1≠wr.heap.size by omega)).trans q1;have hcw4:=cell_below HR4.out.below hcc (nR _);generalize hW4:(w3.setCell ⟨w.heap.size+1,kd,none⟩ (.int .i64 m)).drew=W4 at *;clear hW4 q0 q1 oa oaf ok okf hcw3 htk;have ok:=(HR4.out.out kd hkl).1;rw[BZ] at ok
     go_wp2_with fail
     refine ahn 9 9 (by kernel_rfl) ?_
     change LaB _ _ _ _ _ _ _ (World.drew W4)
     refine ag5 0 (.slice (some ⟨cb,co,none⟩) B.pairs.length cc) ?_ (hr:=by go_simp);refine ag5 1 (.int .i64 (k:Int)) ?_ (hr:=by go_simp);refine ag5 2 (.pointer (some ⟨cb,co+k,none⟩)) ?_ (hr:=by go_simp);refine ag5 3 (.int .i64 n) ?_ (hr:=by go_simp);refine ag5 4 (.slice (some ⟨w.heap.size+1,0,none⟩) B.links.length B.links.length) ?_ (hr:=by go_simp);refine ag5 5 (.int .i64 (kd:Int)) ?_ (hr:=by go_simp);refine ag5 6 (.pointer (some ⟨w.heap.size+1,kd,none⟩)) ?_ (hr:=by go_simp);refine ag5 7 (.int .i64 m) ?_ (hr:=by go_simp);refine ag5 8 (.int .i64 ov) ?_ (hr:=by go_simp);simp only[Act.put,List.setIfInBounds_toArray];refine⟨by kernel_rfl,by kernel_rfl,wpOp_step rfl fun K hK=> ?_⟩;go_simp;refine hK _ _ ?_;clear hK;have HR5:=lH HR4.out.drew;have q0c:W4.drew.cell? ⟨wr.heap.size,0,none⟩=some (.int .i64 a):=q0b;have q1c:W4.drew.cell? ⟨wr.heap.size,1,none⟩=some (.int .i64 b):=q1b;generalize hW5:W4.drew=W5 at *;clear hW5 q0b q1b ok hcw4;obtain⟨oa,oaf⟩:=HR5.out.out ajj hal;rw[dQ _ _ hak] at oa
     go_wp2_with fail
     refine ahn 13 13 (by kernel_rfl) ?_
     change LaB _ _ _ _ _ _ _ (World.drew W5)
     refine ag5 0 (.slice (some ⟨w.heap.size+1,0,none⟩) B.links.length B.links.length) ?_ (hr:=by go_simp);refine ag5 1 (.pointer (some ⟨wr.heap.size,0,none⟩)) ?_ (hr:=by go_simp);refine ag5 2 (.int .i64 a) ?_ (hr:=by go_simp);refine ag5 3 (.int .i64 (ajj:Int)) ?_ (hr:=by go_simp);refine ag5 4 (.slice (some ⟨w.heap.size+1,0,none⟩) B.links.length B.links.length) ?_ (hr:=by go_simp);refine ag5 5 (.pointer (some ⟨wr.heap.size,0,none⟩)) ?_ (hr:=by go_simp);refine ag5 6 (.int .i64 a) ?_ (hr:=by go_simp);refine ag5 7 (.int .i64 (ajj:Int)) ?_ (hr:=by go_simp);refine ag5 8 (.pointer (some ⟨w.heap.size+1,ajj,none⟩)) ?_ (hr:=by go_simp);refine ag5 9 (.int .i64 (f ajj)) ?_ (hr:=by go_simp);refine ag5 10 (.int .i64 ov) ?_ (hr:=by go_simp);refine ag5 11 (.int .i64 (f ajj+ov)) ?_ (hr:=by go_simp);refine ag5 12 (.pointer (some ⟨w.heap.size+1,ajj,none⟩)) ?_ (hr:=by go_simp);simp only[Act.put,List.setIfInBounds_toArray];refine⟨by kernel_rfl,by kernel_rfl,wpOp_step rfl fun K hK=> ?_⟩;go_simp;refine hK _ _ ?_;clear hK;have HR6:=lH (HR5.out.set ajj (f ajj+ov)).drew;have q1d:(W5.setCell ⟨w.heap.size+1,ajj,none⟩ (.int .i64 (f ajj+ov))).drew.cell? ⟨wr.heap.size,1,none⟩=some (.int .i64 b):=(wF _ _ _ _ (show w.heap.size+1≠wr.heap.size by omega)).trans q1c;generalize hW6:(W5.setCell ⟨w.heap.size+1,ajj,none⟩ (.int .i64 (f ajj+ov))).drew=W6 at *;clear hW6 q0c q1c oa oaf;obtain⟨ob,obf⟩:=HR6.out.out bj hbl;rw[dQ _ _ hba,dQ _ _ hbk] at ob
     go_wp2_with fail
     refine ahn 13 13 (by kernel_rfl) ?_
     change LaB _ _ _ _ _ _ _ (World.drew W6)
     refine ag5 0 (.slice (some ⟨w.heap.size+1,0,none⟩) B.links.length B.links.length) ?_ (hr:=by go_simp);refine ag5 1 (.pointer (some ⟨wr.heap.size,1,none⟩)) ?_ (hr:=by go_simp);refine ag5 2 (.int .i64 b) ?_ (hr:=by go_simp);refine ag5 3 (.int .i64 (bj:Int)) ?_ (hr:=by go_simp);refine ag5 4 (.slice (some ⟨w.heap.size+1,0,none⟩) B.links.length B.links.length) ?_ (hr:=by go_simp);refine ag5 5 (.pointer (some ⟨wr.heap.size,1,none⟩)) ?_ (hr:=by go_simp);refine ag5 6 (.int .i64 b) ?_ (hr:=by go_simp);refine ag5 7 (.int .i64 (bj:Int)) ?_ (hr:=by go_simp);refine ag5 8 (.pointer (some ⟨w.heap.size+1,bj,none⟩)) ?_ (hr:=by go_simp);refine ag5 9 (.int .i64 (f bj)) ?_ (hr:=by go_simp);refine ag5 10 (.int .i64 ov) ?_ (hr:=by go_simp);refine ag5 11 (.int .i64 (f bj+ov)) ?_ (hr:=by go_simp);refine ag5 12 (.pointer (some ⟨w.heap.size+1,bj,none⟩)) ?_ (hr:=by go_simp);simp only[Act.put,List.setIfInBounds_toArray];refine⟨by kernel_rfl,by kernel_rfl,wpOp_step rfl fun K hK=> ?_⟩;go_simp;refine hK _ _ ?_;clear hK;have HR7:=lH (HR6.out.set bj (f bj+ov)).drew;generalize hW7:(W6.setCell ⟨w.heap.size+1,bj,none⟩ (.int .i64 (f bj+ov))).drew=W7 at *;clear hW7;go_wp2;go_roundw
     case rel=>exact⟨k+1,by omega,by go_num,by rw[Hf2.out];exact HR7.out⟩
     case measure=>simp[intOf];omega
  ·have hke:k=B.pairs.length:=by omega
   have HR:=lH hR;have hs:=hR.size;have Hke:=lH hke;clear hke hR;go_wp2;go_ret;refine⟨w.heap.size+1,rfl,by omega,fun j hj=> ?_,HR.out.below⟩;have:=(HR.out.out j hj).1;rw[Hke.out] at this;exact this
theorem alF (B:Bk) (T c c':Nat->Int) (h: ∀i,i<B.pairs.length->c i=c' i): ∀n,n<=B.pairs.length->B.loadTo T c n=B.loadTo T c' n
 | 0,_=>rfl
 |n+1,hn=>by
  unfold Bk.loadTo;rw[alF B T c c' h n (by omega),h n (by omega)]
theorem alG (B:Bk) (T:Nat->Int) (most:Bool) (h:Nat):B.load T (trk (aey B most h B.pairs.length))=B.inn T most h:=
 alF B T _ _ (fun _ hi=>ae4 B most h hi) _ (nR _)
theorem alR (B:Bk) (xs:List Int) (most:Bool) (h:Nat):Ew B xs (aey B most h B.pairs.length)=decide (B.lackIn (trk xs) most h<0):=by
 unfold Ew Bk.lackIn;rw[alG]
theorem alH {B:Bk} {xs cs:List Int}:Ew B xs cs=true↔ ∀j,j<B.spokes->B.load (trk xs) (trk cs) j<=trk xs j:=aeH
theorem alS {B:Bk} {xs cs:List Int} {j:Nat} (hj:j<B.spokes) (h:trk xs j<B.load (trk xs) (trk cs) j):Ew B xs cs=false:=by
 cases e:Ew B xs cs with
 |false=>rfl
 |true=>have:=alH.1 e j hj;omega
def allFit (B:Bk) (T:Nat->Int):Bool:=decide (∀h,h<B.hours.toNat->B.lackIn T true h<0)
theorem alT {B:Bk} {T:Nat->Int} (h: ∀h,h<B.hours.toNat->B.lackIn T true h<0):allFit B T=true:=decide_eq_true h
theorem alU {B:Bk} {T:Nat->Int} {h:Nat} (hh:h<B.hours.toNat) (h0:0<=B.lackIn T true h):allFit B T=false:=decide_eq_false fun H=>by have:=H h hh;omega
theorem alV {B:Bk} (hA:B.alarm=0) {T:Nat->Int} (hT: ∀k,0<=T k) (h:allFit B T=true):aQ B T B.hours.toNat 0 1=1:=(ae2 hA hT).2 (of_decide_eq_true h)
theorem alW {B:Bk} {T:Nat->Int} {h:Nat} (hh:h<B.hours.toNat) (h0:0<=B.lackIn T false h):aQ B T B.hours.toNat 0 1=2:=
 (abU B T _ 0 1 (by omega)).2 ⟨h,Nat.zero_le _,by omega,h0⟩
theorem alX {B:Bk} (hA:B.alarm=0) {T:Nat->Int} (hT: ∀k,0<=T k) (h:allFit B T=false) (h0: ∀h,h<B.hours.toNat->B.lackIn T false h<0):aQ B T B.hours.toNat 0 1=0:=by
 rcases abV B T B.hours.toNat 0 1 (.inr rfl) with e |e |e
 ·exact e
 ·exact absurd ((ae2 hA hT).1 e) (of_decide_eq_false h)
 ·obtain⟨g,_,h2,h3⟩:=(abU B T _ 0 1 (by omega)).1 e;have:=h0 g (by omega);omega
theorem alI {l T:Nat->Int} {i:Nat} (hi:T i<l i): ∀n k,k<=i->i<k+n->(∀j,k<=j->j<i->l j<=T j)->fJ l T n k=i
 | 0,k,h1,h2,_=>by omega
 |n+1,k,h1,h2,h3=>by
  unfold fJ;by_cases e:k=i
  ·subst e;rw[if_pos hi]
  ·have:=h3 k (nR _) (by omega);rw[if_neg (by omega)];exact alI hi n (k+1) (by omega) (by omega) (fun j a b=>h3 j (by omega) b)
theorem alY {B:Bk} {T:Nat->Int} {most:Bool} {h i:Nat} (hi:T i<B.inn T most h i) (hs:i<B.spokes) (h0: ∀j,j<i->B.inn T most h j<=T j):B.lackIn T most h=i:=by
 unfold Bk.lackIn Bk.lack;exact alI hi _ 0 (Nat.zero_le _) (by omega) (fun j _ b=>h0 j b)
theorem alZ {B:Bk} {T:Nat->Int} {h i:Nat} (hh:h<B.hours.toNat) (hi:T i<B.inn T true h i) (hs:i<B.spokes) (h0: ∀j,j<i->B.inn T true h j<=T j):
  iW B T (B.hours.toNat-h) h= .tuple #[.int .i64 (h:Int),.int .i64 (i:Int),.int .i64 (B.inn T true h i-T i),.int .i64 0]:=by
 have e:=alY hi hs h0;rw[YM hh (by rw[e];omega),e];rfl
theorem al0 {B:Bk} {T:Nat->Int} {h:Nat} (hh:h<B.hours.toNat) (h0: ∀j,j<B.spokes->B.inn T true h j<=T j):iW B T (B.hours.toNat-h) h=iW B T (B.hours.toNat-(h+1)) (h+1):=by
 have e:=(vC B T true h).2 h0;exact YN hh (by omega)
end Go.Proofs.YtaikibfkggglgaaDoor
namespace Go.Proofs.YtaikibfkggglgaaDoor
open Go.RowKit Go.Tp
section
variable {P:Program} {ops:Array Oper} {Q:Exit->Act->World->Prop} {z:Nat} {S:World->Prop}
def aji (ops:Array Oper):Nat->Nat->Nat->Bool
 | 0,_,_=>false
 |f+1,j,i=>((ops[j]?).map fun o=>o.after.any fun e=>Region.binds .any e&&(e.on==i||aji ops f e.on i)).getD false
def Shut (ops:Array Oper) (listed:Array Bool):Prop:= ∀(j:Nat) (o:Oper),ops[j]? =some o->listed.getD j false=true-> ∀e∈o.after,Region.binds .any e=true->listed.getD e.on false=true
def alz (ops:Array Oper) (listed:Array Bool):Bool:=(List.range ops.size).all fun j=> !listed.getD j false||((ops[j]?).map fun o=>o.after.all fun e=> !Region.binds .any e||listed.getD e.on false).getD true
theorem ajm {ops:Array Oper} {listed:Array Bool} (h:alz ops listed=true):Shut ops listed:=fun j o hj hl e he hb=>by
 unfold alz at h;rw[List.all_eq_true] at h;have h1:=h j (List.mem_range.2 (aS.1 hj).1);rw[hj,hl] at h1;simp only[Bool.not_true,Bool.false_or,Option.map_some,Option.getD_some,Array.all_eq_true] at h1;obtain⟨k,hk,rfl⟩:=Array.getElem_of_mem he;have h2:=h1 k hk;rw[hb] at h2;simpa using h2
theorem ajk {ops:Array Oper} {listed:Array Bool} (hs:Shut ops listed): ∀(f j i:Nat),(∀o,ops[j]? =some o-> ∀e∈o.after,Region.binds .any e=true->listed.getD e.on false=true)->aji ops f j i=true->listed.getD i false=true
 | 0,_,_,_,h=>by cases h
 |f+1,j,i,hj,h=>by
  unfold aji at h
  cases ho:ops[j]? with
  |none=>rw[ho] at h;cases h
  |some o=>
   rw[ho] at h;simp only[Option.map_some,Option.getD_some,Array.any_eq_true,Bool.and_eq_true,Bool.or_eq_true,beq_iff_eq] at h;obtain⟨k,hk,hb,h1⟩:=h;have hl:=hj o ho _ (Array.getElem_mem hk) hb
   rcases h1 with h1 |h1
   ·rw[<-h1];exact hl
   ·exact ajk hs f _ i (fun o2 ho2 e he hb2=>hs _ o2 ho2 hl e he hb2) h1
theorem ajl {listed:Array Bool} {j k:Nat} (h:listed.getD k false=true):(listed.setIfInBounds j true).getD k false=true:=by
 by_cases c:j=k
 ·subst c
  rcases Nat.lt_or_ge j listed.size with h' |h'
  ·simp[h']
  ·simp[Array.getElem?_eq_none h'] at h
 ·rcases Nat.lt_or_ge k listed.size with h' |h'
  ·simp[h',c] at h ⊢; exact h
  ·simp[Array.getElem?_eq_none h'] at h
theorem ajn {ops:Array Oper} {listed:Array Bool} (hs:Shut ops listed) {j:Nat} (hj: ∀o,ops[j]? =some o-> ∀e∈o.after,Region.binds .any e=true->listed.getD e.on false=true):Shut ops (listed.setIfInBounds j true):=fun k o hk hl e he hb=>by
 by_cases c:j=k
 ·subst c;exact ajl (hj o hk e he hb)
 ·refine ajl (hs k o hk ?_ e he hb)
  rcases Nat.lt_or_ge k listed.size with h' |h'
  ·simp[h',c] at hl ⊢; exact hl
  ·have e2:(listed.setIfInBounds j true).getD k false=false:=by
    simp only[Array.getD_eq_getD_getElem?];rw[Array.getElem?_eq_none (by simpa using h')];rfl
   rw[e2] at hl
   cases hl
def ah6 (P:Program) (K:Value->World->Prop):Result Next->Prop
 | .ok (.value v) w'=>K v w'
 | .ok .skip w'=>K undef w'
 | .ok (.enter f args) w'=>Calls P f args w' fun e w''=> ∃v,e= .returned v/\K v w''
 |_=>False
def ahO (P:Program) (o:Oper) (a:Act) (w:World) (K:Value->World->Prop):Prop:=ah6 P K ((execOp a.eval o).run P w)
theorem ahO.mono {o:Oper} {a:Act} {w:World} {K K':Value->World->Prop} (h:ahO P o a w K) (hk: ∀v w',K v w'->K' v w'):ahO P o a w K':=by
 unfold ahO at *;generalize (execOp a.eval o).run P w=r at *
 cases r with
 |ok n w'=>
  cases n<;>simp only[ah6] at h ⊢ <;>
   first
    |exact hk _ _ h
    |exact h.mono fun e w'' ⟨v,e1,k⟩=>⟨v,e1,hk _ _ k⟩
 |halt x w'=>exact h
theorem ahO.wp {o:Oper} {a:Act} {w:World} {K:Act->World->Prop} (h:ahO P o a w fun v w'=>K (a.put o.dst v) w'):o.wp P a w K Q:=by
 unfold ahO at h;unfold Oper.wp;generalize (execOp a.eval o).run P w=r at *
 cases r with
 |ok n w'=>
  cases n<;>simp only[ah6,Oper.upon] at h ⊢ <;>
   first
    |exact h
    | (refine h.mono ?_;rintro e w'' ⟨v,rfl,k⟩;exact k)
 |halt x w'=>exact h.elim
def LaS (P:Program) (ops:Array Oper) (Q:Exit->Act->World->Prop) (z:Nat) (S:World->Prop):Nat->Array Bool->Act->World->Prop
  | 0,listed,a,w=>Region.ready .any ops listed= []/\Q .normal a w
  |n+1,listed,a,w=>Region.ready .any ops listed≠ []/\ ∀i∈Region.ready .any ops listed,∃o,ops[i]? =some o/\
      ((Region.wanted o (yielded ops a.tmps)=false/\LaS P ops Q z S n (listed.setIfInBounds i true) (a.put o.dst undef) w)\/
       (Region.wanted o (yielded ops a.tmps)=true/\ahO P o a w fun v w'=>(i≠z/\i≠z+1->S w')/\LaS P ops Q z S n (listed.setIfInBounds i true) (a.put o.dst v) w'))
theorem ah7: ∀(n:Nat) (listed:Array Bool) (a:Act) (w:World),LaS P ops Q z S n listed a w->wpAny P .any ops Q n listed a w
  | 0,_,_,_,h=>h
  |n+1,_,_,_,h=>⟨fun e=>absurd e h.1,fun i hi=>by
      obtain⟨o,ho,hh⟩:=h.2 i hi;unfold Go.wpOp;simp only[ho]
      rcases hh with ⟨hw,h2⟩ |⟨hw,h2⟩
      · simp only[hw,Bool.false_eq_true,if_false];exact ah7 n _ _ _ h2
      · simp only[hw,if_true]
        exact .inl (ahO.wp (h2.mono fun v w' k=>ah7 n _ _ _ k.2))⟩
theorem aiJ {i:Nat} {oi:Oper} {v:Value} (hi:ops[i]? =some oi) (hsel: ∀(j:Nat) (o:Oper) cs b,ops[j]? =some o->o.op≠ .select cs b) (hz:ops.size<=z\/ ∃f,aji ops f z i=true) (hz2:ops.size<=z+1\/ ∃f,aji ops f (z+1) i=true):
    ∀(n:Nat) (listed:Array Bool) (a:Act) (w:World),Shut ops listed->
      (∀j oj,ops[j]? =some oj->j≠i->listed.getD j true=false->(∀e∈oj.after,Region.binds .any e=true->e.on≠i)->oi.apart ops oj=true)->
      i∈Region.ready .any ops listed->S w->Region.wanted oi (yielded ops a.tmps)=true->(∀u,S u->(execOp a.eval oi).run P u= .ok (.value v) u)->LaS P ops Q z S n (listed.setIfInBounds i true) (a.put oi.dst v) w->LaS P ops Q z S (n+1) listed a w:=by
  intro n
  induction n with
  |zero=>
    intro listed a w _ _ hr hS hw hy H;refine⟨fun h=>(by rw[h] at hr;cases hr),fun j hj=> ?_⟩;by_cases hji:j=i
    · subst hji
      refine⟨oi,hi,.inr ⟨hw, ?_⟩⟩;unfold ahO;rw[hy w hS];exact⟨fun _=>hS,H⟩
    · have h1:=ready_mono hj hji
      rw[H.1] at h1
      cases h1
  |succ n ih=>
    intro listed a w hsh hfree hr hS hw hy H;refine⟨fun h=>(by rw[h] at hr;cases hr),fun j hj=> ?_⟩;by_cases hji:j=i
    · subst hji
      refine⟨oi,hi,.inr ⟨hw, ?_⟩⟩;unfold ahO;rw[hy w hS];exact⟨fun _=>hS,H⟩
    · obtain⟨oj',hoj',H2⟩:=H.2 j (ready_mono hj hji)
      obtain⟨hjun,oj,hoj,hall⟩:=mem_ready.1 hj;have e1:oj'=oj:=Option.some.inj (hoj'.symm.trans hoj);rw[e1] at H2;have hun: ∀k,k=i->listed.getD k false=false:=fun k hk=>by
        subst hk;have h0:=(mem_ready.1 hr).1
        rcases Nat.lt_or_ge k listed.size with h' |h'
        · simp[h'] at h0 ⊢; exact h0
        · simp[Array.getElem?_eq_none h']
      have hnot: ∀e∈oj.after,Region.binds .any e=true->e.on≠i:=fun e he hb heq=>by
        have h1:=hall e he hb;rw[hun _ heq] at h1
        cases h1
      have hno: ∀y,(ops.size<=y\/ ∃f,aji ops f y i=true)->j≠y:=fun y hy e=>by
        subst e;have hjl:j<ops.size:=(aS.1 hoj).1
        rcases hy with hy |⟨f,hy⟩
        · omega
        · have:=ajk hsh f j i (fun o ho e he hb=>by rw[hoj] at ho;cases ho;exact hall e he hb) hy
          rw[hun i rfl] at this
          cases this
      have hjz:j≠z/\j≠z+1:=⟨hno z hz,hno (z+1) hz2⟩;obtain⟨h1,h2,h3⟩:=Oper.apart_spec (hfree j oj hoj hji hjun hnot);have hwj:Region.wanted oj (yielded ops (a.put oi.dst v).tmps)=Region.wanted oj (yielded ops a.tmps):=wanted_put oj a oi.dst v h1;have hej:execOp (a.put oi.dst v).eval oj=execOp a.eval oj:=execOp_put oj (fun cs b=>hsel j oj cs b hoj) a oi.dst v h1;have hfree': ∀k ok,ops[k]? =some ok->k≠i->(listed.setIfInBounds j true).getD k true=false->
          (∀e∈ok.after,Region.binds .any e=true->e.on≠i)->oi.apart ops ok=true:=fun k ok hk hki hun' hno=>by
        refine hfree k ok hk hki ?_ hno;by_cases hjk:j=k
        · subst hjk;exact hjun
        · rw[getD_set_ne true hjk] at hun';exact hun'
      have key: ∀(vj:Value) (w':World),S w'->LaS P ops Q z S n ((listed.setIfInBounds i true).setIfInBounds j true) ((a.put oi.dst v).put oj.dst vj) w'->LaS P ops Q z S (n+1) (listed.setIfInBounds j true) (a.put oj.dst vj) w':=fun vj w' hS' k=>by
        refine ih (listed.setIfInBounds j true) (a.put oj.dst vj) w' (ajn hsh fun o ho e he hb=>by rw[hoj] at ho;cases ho;exact hall e he hb) hfree' (ready_mono hr (Ne.symm hji)) hS' ?_ (fun u hu=> ?_) ?_
        · rw[wanted_put oi a oj.dst vj h3];exact hw
        · rw[execOp_put oi (fun cs b=>hsel i oi cs b hi) a oj.dst vj h3];exact hy u hu
        · rw[Array.setIfInBounds_comm _ _ hji,<-Act.put_comm a v vj h2]
          exact k
      refine⟨oj,hoj, ?_⟩
      rcases H2 with ⟨hw2,k⟩ |⟨hw2,k⟩
      · exact .inl ⟨hwj.symm.trans hw2,key _ _ hS k⟩
      · refine .inr ⟨hwj.symm.trans hw2, ?_⟩
        unfold ahO at k ⊢;rw[hej] at k;exact ahO.mono (o:=oj) (a:=a) (w:=w) k fun vj w' hk=>⟨hk.1,key vj w' (hk.1 hjz) hk.2⟩
theorem ahN (i:Nat) {o:Oper} (v:Value) {n:Nat} {listed:Array Bool} {a:Act} {w:World} (hS:S w) (h:LaS P ops Q z S n (listed.setIfInBounds i true) (a.put o.dst v) w) (ho:ops[i]? =some o:=by rfl) (hw:Region.wanted o (yielded ops a.tmps)=true:=by rfl) (hr: ∀u,S u->(execOp a.eval o).run P u= .ok (.value v) u)
  (hs:Region.noSelect ops=true:=by kernel_rfl) (hf:Region.free .any ops listed i=true:=by kernel_rfl) (hc:(Region.ready .any ops listed).contains i=true:=by kernel_rfl) (hsh:alz ops listed=true:=by kernel_rfl) (hz:ops.size<=z\/ ∃f,aji ops f z i=true:=by first | (refine .inl ?_;decide) | (refine .inr ⟨1, ?_⟩;decide+kernel) | (refine .inr ⟨2, ?_⟩;decide+kernel) | (refine .inr ⟨3, ?_⟩;decide+kernel) | (refine .inr ⟨6, ?_⟩;decide+kernel)) (hz2:ops.size<=z+1\/ ∃f,aji ops f (z+1) i=true:=by first | (refine .inl ?_;decide) | (refine .inr ⟨1, ?_⟩;decide+kernel) | (refine .inr ⟨2, ?_⟩;decide+kernel) | (refine .inr ⟨3, ?_⟩;decide+kernel) | (refine .inr ⟨6, ?_⟩;decide+kernel)):LaS P ops Q z S (n+1) listed a w:=
 aiJ ho (Region.noSelect_spec hs) hz hz2 n listed a w (ajm hsh) (Region.free_spec ho hf) (by simpa using hc) hS hw hr h
theorem ahQ (i:Nat) {o:Oper} {n:Nat} {listed:Array Bool} {a:Act} {w:World} (ho:ops[i]? =some o:=by rfl) (hw:Region.wanted o (yielded ops a.tmps)=true:=by rfl) (hc:Region.ready .any ops listed= [i]:=by kernel_rfl) (h:ahO P o a w fun v w'=>(i≠z/\i≠z+1->S w')/\LaS P ops Q z S n (listed.setIfInBounds i true) (a.put o.dst v) w'):LaS P ops Q z S (n+1) listed a w:=
 ⟨by rw[hc];exact List.cons_ne_nil _ _,fun j hj=>by
  rw[hc,List.mem_singleton] at hj;subst hj;exact⟨o,ho,.inr ⟨hw,h⟩⟩⟩
theorem aif {id:Nat} {a:Act} {w:World} (z n:Nat) (S:World->Prop) (hm:P.follows .mixedOrders=true) (h:LaS P ops Q z S n (Array.replicate n false) a w.drew) (hn:ops.size=n:=by rfl):(Code.region id ops true).wp P Q a w:=
 wp_region_any hm (by rw[hn];exact ah7 _ _ _ _ h)
theorem ahZ {listed:Array Bool} {a:Act} {w:World} (h:Q .normal a w) (hr:Region.ready .any ops listed= []:=by kernel_rfl):LaS P ops Q z S 0 listed a w:=⟨hr,h⟩
theorem ah0 {o:Oper} {a:Act} {w w':World} {v:Value} {K:Value->World->Prop} (hr:(execOp a.eval o).run P w= .ok (.value v) w') (h:K v w'):ahO P o a w K:=by unfold ahO;rw[hr];exact h
theorem ahW {o:Oper} {a:Act} {w w':World} {f:FuncId} {args:Array Value} {K:Value->World->Prop} (hr:(execOp a.eval o).run P w= .ok (.enter f args) w') (h:Calls P f args w' fun e w''=> ∃v,e= .returned v/\K v w''):ahO P o a w K:=by unfold ahO;rw[hr];exact h
theorem aii {o:Oper} {a:Act} {w:World} {K:Value->World->Prop} (s x:Operand) (t:TypeId)
  (ho:o.op= .call {callee:= .builtin .append,args:= #[s,x],argTypes:= #[t,t]})
  (base:Nat) (e:TypeId) (i:TypeInfo) (z:Value) (size bytes:Nat) (ht:P.underlying t=some (.slice e)) (hi:P.info? e=some i) (hz:i.zero=some z)
  (hsize:i.size=size) (hby:i.bytes=bytes) (hzs:z.cells.size=size) (hsz:0<size)
  (v:Value) (n:Nat) (xs:List Value) (hs:a.eval s=v) (hown:w.ownsRow base e size v n xs)
  (ad:Addr) (m c:Nat) (news:List Value) (hx:a.eval x= .slice (some ad) m c) (hl:news.length=m*size) (hnews: ∀j u,news[j]? =some u->w.cell? (ad.add j)=some u) (h1: ∀u∈news,u.oneCell'=true)
  (h63:n+m<=maxLen) (hbytes:(n+m)*bytes<=140737488355328) (hbase:base<=w.heap.size)
  (h: ∀v' w',w'.ownsRow base e size v' (n+m) (xs++news)->w.grownBy w' v.ownBlock->(v'= .slice none 0 0↔v= .slice none 0 0/\m=0)->K v' w'):ahO P o a w K:=by
 obtain⟨v',w',hr,h2,h3,h4⟩:=run_append_own (P:=P) w base t o.type e i z size bytes ht hi hz hsize hby hzs hsz v n xs hown ad m c news hl hnews h1 h63 hbytes hbase;unfold ahO execOp;simp only[ho,resolve,invoke,builtin,Sem.run_bind,Sem.run_pure,Result.andThen_ok,List.map_toArray,List.map_cons,List.map_nil,hs,hx,hr];exact h v' w' h2 h3 h4
end
end Go.Proofs.YtaikibfkggglgaaDoor
namespace Go.Proofs.YtaikibfkggglgaaDoor
open Go.RowKit Go.Rent Go.Tp Go.Conc
theorem c66 (V:BkV) (B:Bk) (hB:B.Fine) (xs cs:List Int) (xa ca:Option Addr) (xc cc:Nat) (w:World) (hat:bT w V B) (hx:SlI w xa xs) (hxl:xs.length=B.links.length) (hc:SlI w ca cs) (hcl:cs.length=B.pairs.length) (hT0: ∀k,0<=trk xs k/\trk xs k<=20) (hcb: ∀k,0<=trk cs k/\trk cs k<=5):
  Calls tP 66 #[V.val B,.slice xa B.links.length xc,.slice ca B.pairs.length cc] w fun e w'=>e= .returned (.bool (Ew B xs cs))/\Below w.heap.size w w':=by
 obtain⟨ta,la,pa,tc,lc,pc⟩:=V;have hl:=hB.links;have ht:=hB.towns;have hsp:B.spokes=B.towns.length-1:=rfl;rw[hsp] at hl;have hb0:Below w.heap.size w (w.alloc (.cells #[.int .i64 B.hours,.slice ta B.towns.length tc,.slice la B.links.length lc,.slice pa B.pairs.length pc] 26)):=(bR _ _).alloc (nR _) _;have HC:=lH (c59 ⟨ta,la,pa,tc,lc,pc⟩ B hB xs cs xa ca xc cc _ (hat.below hb0 (nR _)) (hx.below hb0 (nR _)) hxl (hc.below hb0 (nR _)) hcl hT0 hcb);have HB0:=lH hb0;have HYes:Hid ((∀j,j<B.spokes->B.load (trk xs) (trk cs) j<=trk xs j)->Ew B xs cs=true):=lH alH.2;have HNo:Hid (∀j,j<B.spokes->trk xs j<B.load (trk xs) (trk cs) j->Ew B xs cs=false):=lH fun j h1 h2=>alS h1 h2;have HX:Hid (∀u,Below w.heap.size w u-> ∀k,k<B.links.length-> ∃b o,xa=some ⟨b,o,none⟩/\u.cell? ⟨b,o+k,none⟩=some (.int .i64 (trk xs k))):=lH fun u hu k hk=>by
  obtain⟨b,o,e,h⟩:=(hx.below hu (nR _)) k _ (lG (show k<xs.length by omega));rw[afb (by omega)] at h;exact⟨b,o,e,h⟩
 rw[hsp] at HYes HNo;generalize Ew B xs cs=R at *;generalize B.load (trk xs) (trk cs)=f at *;generalize trk xs=T at *;generalize trk cs=C at *;have HL:=lH hl;have HT:=lH ht;clear hB hat hx hxl hc hcl hT0 hcb hsp hb0;go_enter Tryd.func66,Tryd.ntmps66
 go_wp2_with fail
 refine HC.out.mono ?_;rintro e w1 ⟨g,rfl,hg,hcell,hb1⟩;have HB1:=lH (HB0.out.trans (hb1.mono (by simp)));have H0:Hid (w1.cell? ⟨w.heap.size,0,none⟩=some (.int .i64 B.hours)/\w1.cell? ⟨w.heap.size,1,none⟩=some (.slice ta B.towns.length tc)/\w1.cell? ⟨w.heap.size,2,none⟩=some (.slice la B.links.length lc)/\w1.cell? ⟨w.heap.size,3,none⟩=some (.slice pa B.pairs.length pc)):=lH (by
  obtain⟨hc,_⟩:=ak hb1;refine⟨?_, ?_, ?_, ?_⟩<;>(rw[hc _ _ (by simp)];go_simp))
 have HG:=lH hcell;clear hb1 hcell HC HB0 hg
 go_wp2_with fail
 go_loopw [8] (fun i wr=> ∃k:Nat,k<=B.towns.length-1/\i= .int .i64 (k:Int)/\(∀j,j<k->f j<=T j)/\Below w1.heap.size w1 wr) (fun i _=>B.towns.length-(intOf i).toNat)
 case atStart=>exact⟨0,Nat.zero_le _,rfl,fun j h=>by omega,bR _ _⟩
 case round=>
  obtain⟨k,hk,rfl,hfk,hb⟩:=hrel;obtain⟨q0,q1,q2,q3⟩:=H0.out;have p0:=cell_below hb q0 (nR _);have p1:=cell_below hb q1 (nR _);have p2:=cell_below hb q2 (nR _);have p3:=cell_below hb q3 (nR _);have Hfk:=lH hfk;have Hb:=lH hb;clear q0 q1 q2 q3 hfk hb;have hl:=HL.out;have ht:=HT.out
  go_wp2_with fail
  refine(c73 B.hours ta B.towns.length tc la B.links.length lc pa B.pairs.length pc wr (by omega) (by omega)).mono ?_;rintro e w2 ⟨rfl,hb2⟩;have HB2:=lH (Hb.out.trans (hb2.mono Hb.out.size));clear hb2 p0 p1 p2 p3;by_cases hlt:k<B.towns.length-1
  ·have hlt2:(k:Int)<((B.towns.length-1 :Nat):Int):=by omega
   have hkl:(k:Int)<(B.links.length:Int):=by omega
   obtain⟨tb,tofs,rfl,t0⟩:=HX.out w2 (HB1.out.trans (HB2.out.mono HB1.out.size)) k (by omega);have g0:=cell_below HB2.out (HG.out k (by omega)) (nR _);have hno:=HNo.out k (by omega);generalize hz:f k=z at *;generalize ht9:T k=y at *;have HZ:=lH hz;have HY:=lH ht9;have hno:=lH hno;clear hz ht9;by_cases hgt:y<z
   ·have hR:=hno.out hgt;subst hR
    go_wp2_with fail
    refine aif 9 9 (fun u=>w2.drew=u) (by kernel_rfl) ?_;refine ahN 0 (.slice (some ⟨g,0,none⟩) B.links.length B.links.length) (show w2.drew=w2.drew from rfl) ?_ (hr:=fun u hu=>by subst hu;go_simp);refine ahN 1 (.int .i64 (k:Int)) (show w2.drew=w2.drew from rfl) ?_ (hr:=fun u hu=>by subst hu;go_simp);refine ahN 2 (.pointer (some ⟨g,k,none⟩)) (show w2.drew=w2.drew from rfl) ?_ (hr:=fun u hu=>by subst hu;go_simp);refine ahN 3 (.int .i64 z) (show w2.drew=w2.drew from rfl) ?_ (hr:=fun u hu=>by subst hu;go_simp);refine ahN 4 (.slice (some ⟨tb,tofs,none⟩) B.links.length xc) (show w2.drew=w2.drew from rfl) ?_ (hr:=fun u hu=>by subst hu;go_simp);refine ahN 5 (.int .i64 (k:Int)) (show w2.drew=w2.drew from rfl) ?_ (hr:=fun u hu=>by subst hu;go_simp);refine ahN 6 (.pointer (some ⟨tb,tofs+k,none⟩)) (show w2.drew=w2.drew from rfl) ?_ (hr:=fun u hu=>by subst hu;go_simp);refine ahN 7 (.int .i64 y) (show w2.drew=w2.drew from rfl) ?_ (hr:=fun u hu=>by subst hu;go_simp);refine ahN 8 (.bool true) (show w2.drew=w2.drew from rfl) ?_ (hr:=fun u hu=>by subst hu;go_simp);refine ahZ ?_;go_simp;go_wp2;go_ret;exact⟨rfl,HB1.out.trans (HB2.out.drew.mono HB1.out.size)⟩
   ·go_wp2_with fail
    refine aif 9 9 (fun u=>w2.drew=u) (by kernel_rfl) ?_;refine ahN 0 (.slice (some ⟨g,0,none⟩) B.links.length B.links.length) (show w2.drew=w2.drew from rfl) ?_ (hr:=fun u hu=>by subst hu;go_simp);refine ahN 1 (.int .i64 (k:Int)) (show w2.drew=w2.drew from rfl) ?_ (hr:=fun u hu=>by subst hu;go_simp);refine ahN 2 (.pointer (some ⟨g,k,none⟩)) (show w2.drew=w2.drew from rfl) ?_ (hr:=fun u hu=>by subst hu;go_simp);refine ahN 3 (.int .i64 z) (show w2.drew=w2.drew from rfl) ?_ (hr:=fun u hu=>by subst hu;go_simp);refine ahN 4 (.slice (some ⟨tb,tofs,none⟩) B.links.length xc) (show w2.drew=w2.drew from rfl) ?_ (hr:=fun u hu=>by subst hu;go_simp);refine ahN 5 (.int .i64 (k:Int)) (show w2.drew=w2.drew from rfl) ?_ (hr:=fun u hu=>by subst hu;go_simp);refine ahN 6 (.pointer (some ⟨tb,tofs+k,none⟩)) (show w2.drew=w2.drew from rfl) ?_ (hr:=fun u hu=>by subst hu;go_simp);refine ahN 7 (.int .i64 y) (show w2.drew=w2.drew from rfl) ?_ (hr:=fun u hu=>by subst hu;go_simp);refine ahN 8 (.bool false) (show w2.drew=w2.drew from rfl) ?_ (hr:=fun u hu=>by subst hu;go_simp);refine ahZ ?_;go_simp;have HN:Hid (∀j,j<k+1->f j<=T j):=lH fun j hj=>by
     by_cases e:j=k
     ·subst e;rw[HZ.out,HY.out];omega
     ·exact Hfk.out j (by omega)
    go_wp2;go_roundw
    case rel=>exact⟨k+1,by omega,by go_num,HN.out,HB2.out.drew⟩
    case measure=>simp[intOf];omega
  ·have hlt2: ¬(k:Int)<((B.towns.length-1 :Nat):Int):=by omega
   have hR:=HYes.out fun j hj=>Hfk.out j (by omega);subst hR;go_wp2;go_ret;exact⟨rfl,HB1.out.trans (HB2.out.mono HB1.out.size)⟩
theorem alu (V:BkV) (B:Bk) (hG:Good B) (most:Bool) {w:World} (hs:aB w V B) (k:Nat) (hk:(k:Int)<B.hours) (u:World) (hu:Below w.heap.size w u):
  Calls tP 60 #[V.val B,.int .i64 (k:Int),.bool most] u fun e u'=> ∃ea ec,e= .returned (.slice ea B.pairs.length ec)/\SlI u' ea (aey B most k B.pairs.length)/\Below u.heap.size u u':=
 (c60 V B most k u (hs.below hu (nR _)) hG hk).mono fun _ _ ⟨v,e1,ho,hb⟩=>by
  obtain⟨ca,cc,e2,h⟩:=aeU (by simp[aey]) ho;subst e2;exact⟨ca,cc,e1,h,hb⟩
theorem alJ (B:Bk) (hB:B.Fine) (most:Bool) (h k:Nat):0<=trk (aey B most h B.pairs.length) k/\trk (aey B most h B.pairs.length) k<=5:=by
 by_cases hk:k<B.pairs.length
 ·rw[ae4 B most h hk];exact Gj B hB most h k
 ·unfold trk;rw[List.getD_eq_getElem?_getD,List.getElem?_eq_none (by simp[aey];omega)];simp
theorem alL (V:BkV) (B:Bk) (hB:B.Fine) (most:Bool) (k:Nat) {w:World} (hat:bT w V B) (xs:List Int) (xa:Option Addr) (xc:Nat) (hx:SlI w xa xs) (hxl:xs.length=B.links.length) (hT0: ∀k,0<=trk xs k/\trk xs k<=20) (ea:Option Addr) (ec:Nat) (u:World) (hu:Below w.heap.size w u) (he:SlI u ea (aey B most k B.pairs.length)):
  Calls tP 66 #[V.val B,.slice xa B.links.length xc,.slice ea B.pairs.length ec] u fun e u'=>e= .returned (.bool (decide (B.lackIn (trk xs) most k<0)))/\Below u.heap.size u u':=
 (c66 V B hB xs _ xa ea xc ec u (hat.below hu (nR _)) (hx.below hu (nR _)) hxl he (by simp[aey]) hT0 (alJ B hB most k)).mono fun _ _ ⟨e1,hb⟩=>⟨by rw[e1,alR],hb⟩
theorem alx (V:BkV) (B:Bk) (hB:B.Fine) (most:Bool) (k:Nat) {w:World} (hat:bT w V B) (xs:List Int) (xa:Option Addr) (xc:Nat) (hx:SlI w xa xs) (hxl:xs.length=B.links.length) (hT0: ∀k,0<=trk xs k/\trk xs k<=20) (ea:Option Addr) (ec:Nat) (u:World) (hu:Below w.heap.size w u) (he:SlI u ea (aey B most k B.pairs.length)):
  Calls tP 59 #[V.val B,.slice xa B.links.length xc,.slice ea B.pairs.length ec] u fun e u'=> ∃g,e= .returned (.slice (some ⟨g,0,none⟩) B.links.length B.links.length)/\u.heap.size<=g/\(∀j,j<B.links.length->u'.cell? ⟨g,j,none⟩=some (.int .i64 (B.inn (trk xs) most k j)))/\Below u.heap.size u u':=
 (c59 V B hB xs _ xa ea xc ec u (hat.below hu (nR _)) (hx.below hu (nR _)) hxl he (by simp[aey]) hT0 (alJ B hB most k)).mono fun _ _ ⟨g,e1,hg,hc,hb⟩=>⟨g,e1,hg,by rw[alG] at hc;exact hc,hb⟩
theorem c65 (V:BkV) (B:Bk) (hG:Good B) (xs:List Int) (xa:Option Addr) (xc:Nat) (w:World) (hs:aB w V B) (hx:SlI w xa xs) (hxl:xs.length=B.links.length) (hT0: ∀k,0<=trk xs k/\trk xs k<=20):
  Calls tP 65 #[V.val B,.slice xa B.links.length xc] w fun e w'=>e= .returned (.bool (allFit B (trk xs)))/\Below w.heap.size w w':=by
 obtain⟨ta,la,pa,tc,lc,pc⟩:=V;have hh:=hG.fine.hours;have HC60:Hid (∀(k:Nat),(k:Int)<B.hours-> ∀u,Below w.heap.size w u->Calls tP 60 #[.agg #[.int .i64 B.hours,.slice ta B.towns.length tc,.slice la B.links.length lc,.slice pa B.pairs.length pc],.int .i64 (k:Int),.bool true] u _):=lH (fun k hk u hu=>alu ⟨ta,la,pa,tc,lc,pc⟩ B hG true hs k hk u hu);have HC66:Hid (∀(k:Nat) ea ec u,Below w.heap.size w u->SlI u ea (aey B true k B.pairs.length)->Calls tP 66 #[.agg #[.int .i64 B.hours,.slice ta B.towns.length tc,.slice la B.links.length lc,.slice pa B.pairs.length pc],.slice xa B.links.length xc,.slice ea B.pairs.length ec] u _):=lH (fun k ea ec u hu he=>alL ⟨ta,la,pa,tc,lc,pc⟩ B hG.fine true k hs.at xs xa xc hx hxl hT0 ea ec u hu he);have HYes:Hid ((∀h,h<B.hours.toNat->B.lackIn (trk xs) true h<0)->allFit B (trk xs)=true):=lH alT;have HNo:Hid (∀h,h<B.hours.toNat->0<=B.lackIn (trk xs) true h->allFit B (trk xs)=false):=lH fun h h1 h2=>alU h1 h2;generalize allFit B (trk xs)=R at *;have HH:=lH hh;clear hG hs hx hxl hT0 hh;go_enter Tryd.func65,Tryd.ntmps65
 go_wp2_with fail
 generalize hWd:w.alloc (.cells #[.int .i64 B.hours,.slice ta B.towns.length tc,.slice la B.links.length lc,.slice pa B.pairs.length pc] 26)=W;have HBW:Hid (Below w.heap.size w W):=lH (by subst hWd;exact(bR _ _).alloc (nR _) _);have HW:Hid (W.cell? ⟨w.heap.size,0,none⟩=some (.int .i64 B.hours)/\W.cell? ⟨w.heap.size,1,none⟩=some (.slice ta B.towns.length tc)/\W.cell? ⟨w.heap.size,2,none⟩=some (.slice la B.links.length lc)/\W.cell? ⟨w.heap.size,3,none⟩=some (.slice pa B.pairs.length pc)):=lH (by subst hWd;exact⟨by go_simp,by go_simp,by go_simp,by go_simp⟩);have HZ:Hid (w.heap.size<W.heap.size):=lH (by subst hWd;simp);clear hWd
 go_loopw [5] (fun i wr=> ∃k:Nat,(k:Int)<=B.hours/\i= .int .i64 (k:Int)/\(∀h,h<k->B.lackIn (trk xs) true h<0)/\Below W.heap.size W wr) (fun i _=>B.hours.toNat-(intOf i).toNat)
 case atStart=>exact⟨0,by have:=HH.out;omega,rfl,fun j h=>by omega,bR _ _⟩
 case round=>
  obtain⟨k,hk,rfl,hfk,hb⟩:=hrel;have hh:=HH.out;have Hfk:=lH hfk;have Hb:=lH hb;clear hfk hb;have p0:=cell_below Hb.out HW.out.1 (nR _);by_cases hlt:(k:Int)<B.hours
  ·have hW:Below W.heap.size W wr.drew:=Hb.out.drew;have HC: ∀u,Below W.heap.size W u->u.cell? ⟨w.heap.size,0,none⟩=some (.int .i64 B.hours)/\u.cell? ⟨w.heap.size,1,none⟩=some (.slice ta B.towns.length tc)/\u.cell? ⟨w.heap.size,2,none⟩=some (.slice la B.links.length lc)/\u.cell? ⟨w.heap.size,3,none⟩=some (.slice pa B.pairs.length pc):=fun u hu=>⟨cell_below hu HW.out.1 (nR _),cell_below hu HW.out.2.1 (nR _),cell_below hu HW.out.2.2.1 (nR _),cell_below hu HW.out.2.2.2 (nR _)⟩;have hno:=HNo.out k (by omega);have HN1:Hid (B.lackIn (trk xs) true k<0-> ∀h,h<k+1->B.lackIn (trk xs) true h<0):=lH fun hl h hh=>by
    by_cases e:h=k
    ·subst e;exact hl
    ·exact Hfk.out h (by omega)
   have H66:=HC66.out k;generalize B.lackIn (trk xs) true k=y at *;have HNo1:=lH hno;clear hno
   go_wp2_with fail
   refine aif 7 7 (fun u=>Below W.heap.size W u) (by kernel_rfl) ?_;refine ahN 0 (.agg #[.int .i64 B.hours,.slice ta B.towns.length tc,.slice la B.links.length lc,.slice pa B.pairs.length pc]) hW ?_ (hr:=fun u hu=>by obtain⟨c0,c1,c2,c3⟩:=HC u hu;go_simp);refine ahN 1 (.slice xa B.links.length xc) hW ?_ (hr:=fun u hu=>by go_simp);refine ahN 2 (.agg #[.int .i64 B.hours,.slice ta B.towns.length tc,.slice la B.links.length lc,.slice pa B.pairs.length pc]) hW ?_ (hr:=fun u hu=>by obtain⟨c0,c1,c2,c3⟩:=HC u hu;go_simp);refine ahN 3 (.int .i64 (k:Int)) hW ?_ (hr:=fun u hu=>by go_simp);refine ahQ 4 (h:= ?_);refine ahW (f:=60) (args:= #[.agg #[.int .i64 B.hours,.slice ta B.towns.length tc,.slice la B.links.length lc,.slice pa B.pairs.length pc],.int .i64 (k:Int),.bool true]) (w':=wr.drew) (by go_simp) ((HC60.out k hlt wr.drew (HBW.out.trans (hW.mono HBW.out.size))).mono ?_);rintro e u1 ⟨ea,ec,rfl,he,hb1⟩;have hs1:=hW.trans (hb1.mono hW.size);refine⟨_,rfl,fun _=>hs1, ?_⟩;refine ahQ 5 (h:= ?_);refine ahW (f:=66) (args:= #[.agg #[.int .i64 B.hours,.slice ta B.towns.length tc,.slice la B.links.length lc,.slice pa B.pairs.length pc],.slice xa B.links.length xc,.slice ea B.pairs.length ec]) (w':=u1) (by go_simp) ((H66 ea ec u1 (HBW.out.trans (hs1.mono HBW.out.size)) he).mono ?_);rintro e u2 ⟨rfl,hb2⟩;have hs2:=hs1.trans (hb2.mono hs1.size);refine⟨_,rfl,fun _=>hs2, ?_⟩;refine ahN 6 (.bool (!decide (y<0))) hs2 ?_ (hr:=fun u hu=>by go_simp);refine ahZ ?_;by_cases hy:y<0
   ·go_simp;go_wp2;go_roundw
    case rel=>exact⟨k+1,by omega,by go_num,HN1.out hy,hs2⟩
    case measure=>simp[intOf];omega
   ·have hR:=HNo1.out (by omega);subst hR;go_simp;go_wp2;go_ret;exact⟨rfl,HBW.out.trans (hs2.mono HBW.out.size)⟩
  ·have hR:=HYes.out fun h hh=>Hfk.out h (by omega);subst hR;go_wp2;go_ret;exact⟨rfl,HBW.out.trans (Hb.out.mono HBW.out.size)⟩
end Go.Proofs.YtaikibfkggglgaaDoor
