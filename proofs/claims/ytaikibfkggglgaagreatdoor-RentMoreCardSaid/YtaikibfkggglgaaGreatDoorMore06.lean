/- A part of the proof of a law; no conditions of its own. -/
import Derived.Test.YtaikibfkggglgaaGreatDoorMore05
open Go.RowKit renaming Below→bX
open Go renaming Calls→cF, Value→vL, World→wD
open Go.IntKind renaming i64→qi
open Go.Value renaming int→iN, slice→sL, pointer→pN
open Go.Ending renaming returned→rT
open Go.Obj renaming cells→cL
set_option maxRecDepth 100000
open Go renaming undef→ud
open Nat renaming le_refl→nR
open Go.Lib renaming hid→lH
open Go.RowKit.Below renaming refl→bR
open Go.Proofs.Tryz renaming prog→tP
open List renaming getElem?_eq_getElem→lG
set_option maxHeartbeats 4000000
namespace Go.Proofs.YtaikibfkggglgaaGreatDoor
open Go.RowKit Go.Rent Go.Tp Go.Conc
theorem ajB (B:Bk):(iM B).length=B.hours.toNat:=by simp[iM]
theorem ajC {B:Bk} {k:Nat} (h:k<B.hours.toNat):(iM B).drop k=(k:Int)::(iM B).drop (k+1):=by
 rw[List.drop_eq_getElem_cons (by rw[ajB];exact h)]
 congr 1
 simp[iM]
theorem ajR {B C:Bk} {i k:Nat} {n:Int} (h:k<B.hours.toNat) (hb:dw (nT (iD C i k) n)=true):gtr i n ((iM B).drop k) C=gtr i n ((iM B).drop (k+1)) (fD C i k (nT (iD C i k) n)):=by
 rw[ajC h]
 conv=>lhs;unfold gtr
 rw[Int.toNat_natCast,if_pos hb]
theorem ajS {B C:Bk} {i k:Nat} {n:Int} (h:k<B.hours.toNat) (hb:dw (nT (iD C i k) n)=false):gtr i n ((iM B).drop k) C=(C,false):=by
 rw[ajC h];unfold gtr;rw[Int.toNat_natCast,if_neg (by rw[hb];decide)]
theorem aju {w:wD} {b p:Nat} {h x y:Int} {t1 t2 t3:Option Addr} {n1 n2 n3 m1 m2 m3:Nat} (r:dW w b (iN qi h) (sL t1 n1 m1) (sL t2 n2 m2) (sL t3 n3 m3)) (h0:w.cell? ⟨b,p,none⟩=some (iN qi x)) (h1:w.cell? ⟨b,p+1,none⟩=some (iN qi y)):3<p:=by
 rcases p with _ |_ |_ |_ |p
 ·rw[Nat.zero_add,r.c1] at h1;cases h1
 ·rw[Nat.zero_add,r.c1] at h0;cases h0
 ·rw[show 0+1+1=2 from rfl,r.c2] at h0;cases h0
 ·rw[show 0+1+1+1=3 from rfl,r.c3] at h0;cases h0
 ·omega
theorem ajT {w:wD} {b p:Nat} {h:Int} {s:ByteArray} {t1 t2 t3:Option Addr} {n1 n2 n3 m1 m2 m3:Nat} (r:dW w b (iN qi h) (sL t1 n1 m1) (sL t2 n2 m2) (sL t3 n3 m3)) (h0:w.cell? ⟨b,p,none⟩=some (.string s)):3<p:=by
 rcases p with _ |_ |_ |_ |p
 ·rw[r.c0] at h0;cases h0
 ·rw[Nat.zero_add,r.c1] at h0;cases h0
 ·rw[show 0+1+1=2 from rfl,r.c2] at h0;cases h0
 ·rw[show 0+1+1+1=3 from rfl,r.c3] at h0;cases h0
 ·omega
theorem aB.set {w:wD} {b k:Nat} {h:Int} {t1 t2 t3:Option Addr} {n1 n2 n3 m1 m2 m3:Nat} {V:BkV} {B:Bk} (hs:aB w V B) (r:dW w b (iN qi h) (sL t1 n1 m1) (sL t2 n2 m2) (sL t3 n3 m3)) (hk:k<=3) (v:vL):aB (w.setCell ⟨b,k,none⟩ v) V B:=by
 have keep: ∀{c o:Nat} {x:vL},w.cell? ⟨c,o,none⟩=some x->(c=b->3<o)->(w.setCell ⟨b,k,none⟩ v).cell? ⟨c,o,none⟩=some x:=fun {c o x} h0 h1=>by
  rw[World.cell?_setCell_other _ _ _ _ (by intro e;simp only[Addr.mk.injEq] at e;have:=h1 e.1.symm;omega)];exact h0
 have band: ∀{sa:Option Addr} {l:List (Int×Int)},SlB w sa l->SlB (w.setCell ⟨b,k,none⟩ v) sa l:=fun {sa l} hb i x hx=>by
  obtain⟨c,o,e,y0,y1⟩:=hb i x hx;have hlt:c=b->3<o+i*2:=fun e=>by subst e;exact aju r y0 y1
  exact⟨c,o,e,keep y0 hlt,keep y1 fun e=>by have:=hlt e;omega⟩
 refine⟨fun i t ht=> ?_,fun i L hL=> ?_,fun i L hL=> ?_,hs.nt,hs.nl,hs.np,hs.tc⟩
 ·obtain⟨c,o,e,y0⟩:=hs.towns i t ht;exact⟨c,o,e,keep y0 fun e=>by subst e;exact ajT r y0⟩
 ·obtain⟨c,o,sa,sc,e,y0,y1,y2,y3,y4⟩:=hs.links i L hL;have hlt:c=b->3<o+i*3:=fun e=>by subst e;exact aju r y0 y1
  exact⟨c,o,sa,sc,e,keep y0 hlt,keep y1 fun e=>by have:=hlt e;omega,keep y2 fun e=>by have:=hlt e;omega,band y3,y4⟩
 ·obtain⟨c,o,sa,sc,e,y0,y1,y2,y3,y4⟩:=hs.pairs i L hL;have hlt:c=b->3<o+i*3:=fun e=>by subst e;exact aju r y0 y1
  exact⟨c,o,sa,sc,e,keep y0 hlt,keep y1 fun e=>by have:=hlt e;omega,keep y2 fun e=>by have:=hlt e;omega,band y3,y4⟩
theorem aB.put4 {w:wD} {b:Nat} {h h':Int} {t1 t2 t3 s1 s2 s3:Option Addr} {n1 n2 n3 m1 m2 m3 p1 p2 p3 q1 q2 q3:Nat} {V:BkV} {B:Bk} (hs:aB w V B) (r:dW w b (iN qi h) (sL t1 n1 m1) (sL t2 n2 m2) (sL t3 n3 m3)):
  aB ((((w.setCell ⟨b,0,none⟩ (iN qi h')).setCell ⟨b,1,none⟩ (sL s1 p1 q1)).setCell ⟨b,2,none⟩ (sL s2 p2 q2)).setCell ⟨b,3,none⟩ (sL s3 p3 q3)) V B:=by
 have r1:dW (w.setCell ⟨b,0,none⟩ (iN qi h')) b (iN qi h') (sL t1 n1 m1) (sL t2 n2 m2) (sL t3 n3 m3):=by
  obtain⟨_,c0,c1,c2,c3,f0,f1,f2,f3⟩:=r;refine aij ?_ ?_ ?_ ?_ ?_ ?_ ?_ ?_<;>go_simp
 have r2:dW ((w.setCell ⟨b,0,none⟩ (iN qi h')).setCell ⟨b,1,none⟩ (sL s1 p1 q1)) b (iN qi h') (sL s1 p1 q1) (sL t2 n2 m2) (sL t3 n3 m3):=by
  obtain⟨_,c0,c1,c2,c3,f0,f1,f2,f3⟩:=r;refine aij ?_ ?_ ?_ ?_ ?_ ?_ ?_ ?_<;>go_simp
 have r3:dW (((w.setCell ⟨b,0,none⟩ (iN qi h')).setCell ⟨b,1,none⟩ (sL s1 p1 q1)).setCell ⟨b,2,none⟩ (sL s2 p2 q2)) b (iN qi h') (sL s1 p1 q1) (sL s2 p2 q2) (sL t3 n3 m3):=by
  obtain⟨_,c0,c1,c2,c3,f0,f1,f2,f3⟩:=r;refine aij ?_ ?_ ?_ ?_ ?_ ?_ ?_ ?_<;>go_simp
 exact(((hs.set r (by decide) _).set r1 (by decide) _).set r2 (by decide) _).set r3 (by decide) _
theorem r51 (V:BkV) (B:Bk) (i:Nat) (n:Int) (w:wD) (hs:aB w V B) (hA:B.alarm=0) (hi:i<B.pairs.length) (hn:0<=n/\n<=6):
  cF tP 51 #[V.val B,iN qi (i:Int),iN qi n] w fun e w'=> ∃V' C,e= rT (.tuple #[V'.val C,.bool (gtr i n (iM B) B).2])/\aB w' V' C/\C.alarm=0/\((gtr i n (iM B) B).2=true->C=(gtr i n (iM B) B).1)/\bX w.heap.size w w':=by
 obtain⟨ta,la,pa,tc,lc,pc⟩:=V;have hG:=gY hA;have hh1:=hG.fine.hours;have hnp:=hG.fine.pairs;obtain⟨H,hH⟩: ∃H:Nat,B.hours=(H:Int):=⟨B.hours.toNat,by omega⟩;have hHn:B.hours.toNat=H:=by omega
 have Hs:=lH hs;have HA:=lH hA;have HH:=lH (And.intro hH hHn);clear hs hA hG hH hHn;go_enter Tryz.func51,Tryz.ntmps51
 go_wp2_with fail
 have hr3:=ahT w 26 (iN qi B.hours) (sL ta B.towns.length tc) (sL la B.links.length lc) (sL pa B.pairs.length pc);have hb0:=(bR w.heap.size w).alloc (nR _) (cL #[iN qi B.hours,sL ta B.towns.length tc,sL la B.links.length lc,sL pa B.pairs.length pc] 26);have hz0:(w.alloc (cL #[iN qi B.hours,sL ta B.towns.length tc,sL la B.links.length lc,sL pa B.pairs.length pc] 26)).heap.size=w.heap.size+1:=by simp
 generalize w.alloc (cL #[iN qi B.hours,sL ta B.towns.length tc,sL la B.links.length lc,sL pa B.pairs.length pc] 26)=W0 at *;have hr6:=ahT W0 26 (iN qi 0) (sL none 0 0) (sL none 0 0) (sL none 0 0);have hb1:=hb0.alloc hb0.size (cL #[iN qi 0,sL none 0 0,sL none 0 0,sL none 0 0] 26);have hs1:=(bR W0.heap.size W0).alloc (nR _) (cL #[iN qi 0,sL none 0 0,sL none 0 0,sL none 0 0] 26);rw[hz0] at hr6;generalize W0.alloc (cL #[iN qi 0,sL none 0 0,sL none 0 0,sL none 0 0] 26)=W1 at *;have H3:=lH (hr3.below hs1 (by omega));have H6:=lH hr6;have HB1:=lH hb1;clear hr3 hr6 hb0 hb1 hs1 hz0
 go_loopw [8] (fun j wr=> ∃(k:Nat) (C:Bk) (pa':Option Addr) (pc':Nat),k<=H/\j= iN qi (k:Int)/\dW wr w.heap.size (iN qi B.hours) (sL ta B.towns.length tc) (sL la B.links.length lc) (sL pa' B.pairs.length pc')/\dW wr (w.heap.size+1) (iN qi 0) (sL none 0 0) (sL none 0 0) (sL none 0 0)/\aB wr ⟨ta,la,pa',tc,lc,pc'⟩ C/\C.alarm=0/\Alike B C/\gtr i n (iM B) B=gtr i n ((iM B).drop k) C/\bX w.heap.size w wr) (fun j _=>H-(intOf j).toNat)
 case atStart=>exact⟨0,B,pa,pc,Nat.zero_le _,rfl,H3.out,H6.out,Hs.out.below HB1.out (nR _),HA.out,Alike.refl B,rfl,HB1.out⟩
 case round=>
  obtain⟨k,C,pa',pc',hk,rfl,h3,h6,hbk,hC,hal,hgt,hbw⟩:=hrel;have hGC:=gY hC;have hiC:i<C.pairs.length:=by rw[hal.len];exact hi
  have hpp:C.pairs[i]? =some C.pairs[i]:=lG hiC;have hLC:=(hGC.fine.calls i _ hpp).1;rw[hal.hours,HH.out.1] at hLC;have hcl:(C.pairs[i]).calls.length=H:=by omega
  have Hbk:=lH hbk;have HC:=lH hC;have Hal:=lH hal;have Hgt:=lH hgt;have Hbw:=lH hbw;have H3':=lH h3;have H6':=lH h6;obtain⟨_,c0,c1,c2,c3,f0,f1,f2,f3⟩:=h3;have n3:w.heap.size<=w.heap.size+1:=by omega
  by_cases hlt:k<H
  ·have hkB:(k:Int)<B.hours:=by rw[HH.out.1];omega
   obtain⟨pb,po,sa,sc,epa,p0,p1,q2,q3,p4⟩:=hbk.pairs i _ hpp;simp only at epa;subst epa;have hkc:k<(C.pairs[i]).calls.length:=by omega
   have hxk:(C.pairs[i]).calls[k]? =some (C.pairs[i]).calls[k]:=lG hkc;obtain⟨sb,so,esa,y0,y1⟩:=q3 k _ hxk;subst esa;have hx:=(hGC.fine.calls i _ hpp).2 k _ hxk;have hband:iD C i k=(C.pairs[i]).calls[k]:=by unfold iD;rw[hpp,Option.bind_some,hxk];rfl
   have Hbd:=lH hband;rw[hcl] at q2;generalize (C.pairs[i]).calls[k]=x at *;obtain⟨xa,xb⟩:=x;simp only at y0 y1 hx;have hi':(i:Int)<(B.pairs.length:Int):=by omega
   have hi0:(0 :Int)<=(i:Int):=Int.natCast_nonneg _;have hk':(k:Int)<(H:Int):=by omega
   have hk0:(0 :Int)<=(k:Int):=Int.natCast_nonneg _;have H47:=lH (r47 xa xb n (by omega) (by omega) (by omega));have H99:=lH (c99 (xa+n) (xb+n));have Hx:=lH hx;have Hpc:=lH (And.intro hiC hkc);have HGC:=lH hGC;clear p0 p1 p4 hbk hC hal hgt hbw hGC q3 hxk hband hcl hLC hx hpp hkc
   go_wp2_with fail
   refine(H47.out wr).mono ?_;rintro e w1 ⟨rfl,hb1⟩
   go_wp2_with fail
   have hwx:bX wr.heap.size wr (w1.alloc (cL #[iN qi (xa+n),iN qi (xb+n)] 43)):=hb1.alloc hb1.size _;have hx9:(w1.alloc (cL #[iN qi (xa+n),iN qi (xb+n)] 43)).cell? ⟨w1.heap.size,0,none⟩=some (iN qi (xa+n))/\(w1.alloc (cL #[iN qi (xa+n),iN qi (xb+n)] 43)).cell? ⟨w1.heap.size,1,none⟩=some (iN qi (xb+n)):=⟨by go_simp,by go_simp⟩;clear hb1;generalize w1.alloc (cL #[iN qi (xa+n),iN qi (xb+n)] 43)=X at *;generalize w1.heap.size=b9 at *;refine(H99.out X).mono ?_;rintro e w3 ⟨rfl,hb3⟩;have hx3:bX wr.heap.size wr w3:=hwx.trans (hb3.mono hwx.size);have h3y:=H3'.out.below hx3 H3'.out.z;have h6y:=H6'.out.below hx3 H6'.out.z;have hky:=Hbk.out.below hx3 (nR _);have hbx:=Hbw.out.trans (hx3.mono Hbw.out.size);have x0:=aoF hb3 hx9.1 (nR _);have x1:=aoF hb3 hx9.2 (nR _);have H3y:=lH h3y;have H6y:=lH h6y;have Hky:=lH hky;have Hbx:=lH hbx;clear hwx hx9 hb3 hx3 c0 c1 c2 c3 f0 f1 f2 f3 y0 y1 q2 hky hbx h6;obtain⟨_,c0,c1,c2,c3,f0,f1,f2,f3⟩:=h3y;obtain⟨_,e0,e1,e2,e3,g0,g1,g2,g3⟩:=h6y;by_cases h5:5<xb+n
   ·have hbf:dw (xa+n,xb+n)=false:=by simp[dw];omega
    have hmiss:gtr i n (iM B) B=(C,false):=by
     rw[Hgt.out,ajS (by rw[HH.out.2];exact hlt) (by rw[Hbd.out];exact hbf)]
    have Hmiss:=lH hmiss;clear hmiss;rw[hbf];have hz4:=aiK H6y.out (iN qi B.hours) (sL ta B.towns.length tc) (sL la B.links.length lc) (sL (some ⟨pb,po,none⟩) B.pairs.length pc');have Hbz:=lH (aik Hbx.out (b:=w.heap.size+1) n3 rfl (iN qi B.hours) (sL ta B.towns.length tc) (sL la B.links.length lc) (sL (some ⟨pb,po,none⟩) B.pairs.length pc'));have Hbk4:=lH (Hky.out.put4 (h':=B.hours) (s1:=ta) (s2:=la) (s3:=some ⟨pb,po,none⟩) (p1:=B.towns.length) (p2:=B.links.length) (p3:=B.pairs.length) (q1:=tc) (q2:=lc) (q3:=pc') H6y.out);obtain⟨_,z0,z1,z2,z3,_,_,_,_⟩:=hz4;have Hz:=lH (And.intro z0 (And.intro z1 (And.intro z2 z3)));clear z0 z1 z2 z3;go_wp2;obtain⟨z0,z1,z2,z3⟩:=Hz.out;refine bodyPost_ret (v:= .tuple #[.agg #[iN qi B.hours,sL ta B.towns.length tc,sL la B.links.length lc,sL (some ⟨pb,po,none⟩) B.pairs.length pc'],.bool false]) (by simp[results,Tryz.results51,go_sem,z0,z1,z2,z3]) rfl ?_;refine⟨⟨ta,la,some ⟨pb,po,none⟩,tc,lc,pc'⟩,C, ?_,Hbk4.out,HC.out, ?_,Hbz.out⟩
    ·rw[Hmiss.out];simp only[BkV.val,Hal.out.hours,Hal.out.towns,Hal.out.links,Hal.out.len]
    ·rw[Hmiss.out];exact fun h=>by cases h
   ·have hbt:dw (xa+n,xb+n)=true:=by have:=Hx.out;simp[dw];omega
    have hbok:dw (nT (iD C i k) n)=true:=by rw[Hbd.out];exact hbt
    rw[hbt];have Hhit:Hid (gtr i n (iM B) B=gtr i n ((iM B).drop (k+1)) (fD C i k (xa+n,xb+n))):=lH (by
     rw[Hgt.out,ajR (by rw[HH.out.2];exact hlt) hbok,Hbd.out];rfl)
    have HC':Hid ((fD C i k (xa+n,xb+n)).alarm=0):=lH (ahq HC.out hbt);have Hal':Hid (Alike B (fD C i k (xa+n,xb+n))):=lH (Hal.out.trans (ahr C i k _));have Hval:Hid (BkV.val ⟨ta,la,some ⟨pb,po,none⟩,tc,lc,pc'⟩ C=(.agg #[iN qi B.hours,sL ta B.towns.length tc,sL la B.links.length lc,sL (some ⟨pb,po,none⟩) B.pairs.length pc'])):=lH (by simp only[BkV.val,Hal.out.hours,Hal.out.towns,Hal.out.links,Hal.out.len]);have Hkc:Hid ((k:Int)<C.hours):=lH (by rw[Hal.out.hours];exact hkB);clear hbok hbt
    go_wp2_with fail
    have hcall:=c43 ⟨ta,la,some ⟨pb,po,none⟩,tc,lc,pc'⟩ C i k (xa+n) (xb+n) w3 Hky.out HGC.out hiC Hkc.out;rw[Hval.out] at hcall;refine hcall.mono ?_;rintro e u4 ⟨g,gc,rfl,hk4,hr4,hb4⟩;simp only[BkV.val,Hal.out.hours,Hal.out.towns,Hal.out.links,Hal.out.len];have h34:=H3y.out.below hb4 H3y.out.z;have h64:=H6y.out.below hb4 H6y.out.z;have hk5:=hk4.put4 (h':=B.hours) (s1:=ta) (s2:=la) (s3:=some ⟨g,0,none⟩) (p1:=B.towns.length) (p2:=B.links.length) (p3:=B.pairs.length) (q1:=tc) (q2:=lc) (q3:=gc) h34;have h35:=aiK h34 (iN qi B.hours) (sL ta B.towns.length tc) (sL la B.links.length lc) (sL (some ⟨g,0,none⟩) B.pairs.length gc);have hne:w.heap.size≠w.heap.size+1:=by omega
    have h65:=(((h64.far (k:=0) hne (iN qi B.hours)).far (k:=1) hne (sL ta B.towns.length tc)).far (k:=2) hne (sL la B.links.length lc)).far (k:=3) hne (sL (some ⟨g,0,none⟩) B.pairs.length gc);have hbw5:=aik (Hbx.out.trans (hb4.mono Hbx.out.size)) (b:=w.heap.size) (nR _) rfl (iN qi B.hours) (sL ta B.towns.length tc) (sL la B.links.length lc) (sL (some ⟨g,0,none⟩) B.pairs.length gc);have H35:=lH h35;have H65:=lH h65;have Hbw5:=lH hbw5;have Hk5:=lH hk5;clear c0 c1 c2 c3 f0 f1 f2 f3 e0 e1 e2 e3 g0 g1 g2 g3 h64 hk4 hr4 hb4 hcall h35 h65 hbw5 hk5 x0 x1;obtain⟨_,y0,y1,y2,y3,z0,z1,z2,z3⟩:=h34;go_wp2;go_roundw
    case rel=>exact⟨k+1,by omega,by go_num,fD C i k (xa+n,xb+n),some ⟨g,0,none⟩,gc,H35.out,H65.out,Hk5.out,HC'.out,Hal'.out,Hhit.out,Hbw5.out⟩
    case measure=>simp[intOf];omega
  ·have hkB: ¬(k:Int)<B.hours:=by rw[HH.out.1];omega
   have hend:gtr i n (iM B) B=(C,true):=by
    rw[Hgt.out,List.drop_of_length_le (by rw[ajB,HH.out.2];omega)];rfl
   have Hend:=lH hend;obtain⟨_,e0,e1,e2,e3,g0,g1,g2,g3⟩:=h6;clear hbk hC hal hgt hbw hGC hpp hend;go_wp2;refine bodyPost_ret (v:= .tuple #[.agg #[iN qi B.hours,sL ta B.towns.length tc,sL la B.links.length lc,sL pa' B.pairs.length pc'],.bool true]) (by simp[results,Tryz.results51,go_sem,e0,e1,e2,e3]) rfl ?_;have hbz:=aik Hbw.out (b:=w.heap.size+1) n3 rfl (iN qi B.hours) (sL ta B.towns.length tc) (sL la B.links.length lc) (sL pa' B.pairs.length pc');refine⟨⟨ta,la,pa',tc,lc,pc'⟩,C, ?_, ?_,HC.out, ?_,hbz⟩
   ·rw[Hend.out];simp only[BkV.val,Hal.out.hours,Hal.out.towns,Hal.out.links,Hal.out.len]
   ·exact Hbk.out.put4 H6'.out
   ·rw[Hend.out];exact fun _=>rfl
theorem aoc {Q:Exit->Act->wD->Prop} (v0:vL) (b:Nat) (n m:Int) (bt:Bool) (h':Int) (ta' la' pa':Option Addr) (tc' lc' pc' n1 n2 n3:Nat) (al:Int) (W:wD) (h:Int) (ta la pa:Option Addr) (nt nl np tc lc pc:Nat)
  (k0:W.cell? ⟨b,0,none⟩=some (iN qi h)) (k1:W.cell? ⟨b,1,none⟩=some (sL ta nt tc)) (k2:W.cell? ⟨b,2,none⟩=some (sL la nl lc)) (k3:W.cell? ⟨b,3,none⟩=some (sL pa np pc))
  (H69: ∀u,bX W.heap.size W u->cF tP 40 #[.agg #[iN qi h,sL ta nt tc,sL la nl lc,sL pa np pc],iN qi n] u fun e u'=>e= rT (.bool bt)/\bX u.heap.size u u')
  (H78: ∀u,bX W.heap.size W u->cF tP 39 #[.agg #[iN qi h,sL ta nt tc,sL la nl lc,sL pa np pc],.bool bt] u fun e u'=>e= rT (.tuple #[.agg #[iN qi h',sL ta' n1 tc',sL la' n2 lc',sL pa' n3 pc'],iN qi al])/\bX u.heap.size u u')
  (K: ∀(b6:Nat) (w':wD),W.heap.size<=b6->bX W.heap.size W w'->dW w' b6 (iN qi h') (sL ta' n1 tc') (sL la' n2 lc') (sL pa' n3 pc')->Q .normal ⟨#[v0,iN qi n,iN qi m,pN (some ⟨b,0,none⟩),ud,ud,iN qi 0,iN qi 0,pN (some ⟨b6,0,none⟩),iN qi al,ud,ud,ud,ud,ud,.tuple #[.agg #[iN qi h',sL ta' n1 tc',sL la' n2 lc',sL pa' n3 pc'],iN qi al],.agg #[iN qi h,sL ta nt tc,sL la nl lc,sL pa np pc],.agg #[iN qi h,sL ta nt tc,sL la nl lc,sL pa np pc],iN qi n,.bool bt,.tuple #[.agg #[iN qi h',sL ta' n1 tc',sL la' n2 lc',sL pa' n3 pc'],iN qi al],.agg #[iN qi h',sL ta' n1 tc',sL la' n2 lc',sL pa' n3 pc'],iN qi al,ud,ud,ud,ud,ud,ud,ud,ud,ud,ud,ud,ud,ud,ud,ud,ud,ud,ud,ud,ud,ud,ud,ud,ud,ud,ud,ud,ud,ud,ud,ud,ud,ud,ud,ud,ud,ud,ud,ud,ud,ud,ud,ud,ud,ud,ud,ud,ud,ud,ud,ud],[]⟩ w'):
  ND.wp tP Q ⟨#[v0,iN qi n,iN qi m,pN (some ⟨b,0,none⟩),ud,ud,iN qi 0,iN qi 0,ud,ud,ud,ud,ud,ud,ud,ud,ud,ud,ud,ud,ud,ud,ud,ud,ud,ud,ud,ud,ud,ud,ud,ud,ud,ud,ud,ud,ud,ud,ud,ud,ud,ud,ud,ud,ud,ud,ud,ud,ud,ud,ud,ud,ud,ud,ud,ud,ud,ud,ud,ud,ud,ud,ud,ud,ud,ud,ud,ud,ud,ud,ud,ud,ud,ud],[]⟩ W:=by
 simp only[ND,Tryz.f10];have hW:bX W.heap.size W W.drew:=(bR _ _).drew;have HC: ∀u,bX W.heap.size W u->u.cell? ⟨b,0,none⟩=some (iN qi h)/\u.cell? ⟨b,1,none⟩=some (sL ta nt tc)/\u.cell? ⟨b,2,none⟩=some (sL la nl lc)/\u.cell? ⟨b,3,none⟩=some (sL pa np pc):=fun u hu=>⟨aoF hu k0 (nR _),aoF hu k1 (nR _),aoF hu k2 (nR _),aoF hu k3 (nR _)⟩;refine aif 11 11 (fun u=>bX W.heap.size W u) (by kernel_rfl) ?_;refine ahN 0 (.agg #[iN qi h,sL ta nt tc,sL la nl lc,sL pa np pc]) hW ?_ (hr:=fun u hu=>by obtain⟨c0,c1,c2,c3⟩:=HC u hu;go_simp);refine ahN 1 (.agg #[iN qi h,sL ta nt tc,sL la nl lc,sL pa np pc]) hW ?_ (hr:=fun u hu=>by obtain⟨c0,c1,c2,c3⟩:=HC u hu;go_simp);refine ahN 2 (iN qi n) hW ?_ (hr:=fun u hu=>by go_simp);have hz:=hW.size;have fin: ∀(b6:Nat) (u:wD),W.heap.size<=b6->bX W.heap.size W u->(∃c0 c1 c2 c3,dW u b6 c0 c1 c2 c3)->dW ((((u.setCell ⟨b6,0,none⟩ (iN qi h')).setCell ⟨b6,1,none⟩ (sL ta' n1 tc')).setCell ⟨b6,2,none⟩ (sL la' n2 lc')).setCell ⟨b6,3,none⟩ (sL pa' n3 pc')) b6 (iN qi h') (sL ta' n1 tc') (sL la' n2 lc') (sL pa' n3 pc')/\bX W.heap.size W ((((u.setCell ⟨b6,0,none⟩ (iN qi h')).setCell ⟨b6,1,none⟩ (sL ta' n1 tc')).setCell ⟨b6,2,none⟩ (sL la' n2 lc')).setCell ⟨b6,3,none⟩ (sL pa' n3 pc')):=fun b6 u h1 h2 ⟨_,_,_,_,h3⟩=>⟨aiK h3 _ _ _ _,aik h2 h1 rfl _ _ _ _⟩;refine aie 3 8 ?_ ?_
 ·refine ahW (f:=40) (args:= #[.agg #[iN qi h,sL ta nt tc,sL la nl lc,sL pa np pc],iN qi n]) (w':=W.drew) (by go_simp) ((H69 _ hW).mono ?_);rintro e u ⟨rfl,hb⟩;have hu:bX W.heap.size W u:=hW.trans (hb.mono hz);refine⟨_,rfl,fun _=>hu, ?_⟩;refine aie 4 8 ?_ ?_
  ·refine ahW (f:=39) (args:= #[.agg #[iN qi h,sL ta nt tc,sL la nl lc,sL pa np pc],.bool bt]) (w':=u) (by go_simp) ((H78 _ hu).mono ?_);rintro e u1 ⟨rfl,hb1⟩;have hu1:bX W.heap.size W u1:=hu.trans (hb1.mono hu.size);refine⟨_,rfl,fun _=>hu1, ?_⟩;refine ahN 5 (.tuple #[.agg #[iN qi h',sL ta' n1 tc',sL la' n2 lc',sL pa' n3 pc'],iN qi al]) hu1 ?_ (hr:=fun u hu=>by go_simp);refine ahN 6 (.agg #[iN qi h',sL ta' n1 tc',sL la' n2 lc',sL pa' n3 pc']) hu1 ?_ (hr:=fun u hu=>by go_simp);refine ahN 7 (iN qi al) hu1 ?_ (hr:=fun u hu=>by go_simp);refine ahQ 8 (h:=ah0 (v:= pN (some ⟨u1.heap.size,0,none⟩)) (w':=u1.alloc (cL #[iN qi 0,sL none 0 0,sL none 0 0,sL none 0 0] 73)) (by go_simp) ⟨fun _=>hu1.alloc hu1.size _, ?_⟩);have hr:=ahT u1 73 (iN qi 0) (sL none 0 0) (sL none 0 0) (sL none 0 0);have hua:=hu1.alloc hu1.size (cL #[iN qi 0,sL none 0 0,sL none 0 0,sL none 0 0] 73);have hus:=hu1.size;generalize u1.alloc (cL #[iN qi 0,sL none 0 0,sL none 0 0,sL none 0 0] 73)=ua at *;generalize u1.heap.size=b6 at *;obtain⟨g1,g2⟩:=fin b6 ua hus hua ⟨_,_,_,_,hr⟩;refine ahQ 9 (h:=ah1 (w':=((((ua.setCell ⟨b6,0,none⟩ (iN qi h')).setCell ⟨b6,1,none⟩ (sL ta' n1 tc')).setCell ⟨b6,2,none⟩ (sL la' n2 lc')).setCell ⟨b6,3,none⟩ (sL pa' n3 pc'))) ?_ ⟨fun _=>g2, ?_⟩)
   ·obtain⟨hz',c0,c1,c2,c3,f0,f1,f2,f3⟩:=hr;go_simp
   refine ahN 10 (iN qi al) g2 ?_ (hr:=fun u hu=>by go_simp);refine ahZ ?_;have hK:=K _ _ hus g2 g1;clear K;go_simp;exact hK
  ·refine ah0 (v:= pN (some ⟨u.heap.size,0,none⟩)) (w':=u.alloc (cL #[iN qi 0,sL none 0 0,sL none 0 0,sL none 0 0] 73)) (by go_simp) ⟨fun _=>hu.alloc hu.size _, ?_⟩;have hn:=ahT u 73 (iN qi 0) (sL none 0 0) (sL none 0 0) (sL none 0 0);have hua:=hu.alloc hu.size (cL #[iN qi 0,sL none 0 0,sL none 0 0,sL none 0 0] 73);have hus:=hu.size;generalize u.alloc (cL #[iN qi 0,sL none 0 0,sL none 0 0,sL none 0 0] 73)=ua at *;generalize u.heap.size=b6 at *;refine ahQ 4 (h:= ?_);refine ahW (f:=39) (args:= #[.agg #[iN qi h,sL ta nt tc,sL la nl lc,sL pa np pc],.bool bt]) (w':=ua) (by go_simp) ((H78 _ hua).mono ?_);rintro e u1 ⟨rfl,hb1⟩;have hu1:bX W.heap.size W u1:=hua.trans (hb1.mono hua.size);refine⟨_,rfl,fun _=>hu1, ?_⟩;have hr:=hn.below hb1 hn.z;refine ahN 5 (.tuple #[.agg #[iN qi h',sL ta' n1 tc',sL la' n2 lc',sL pa' n3 pc'],iN qi al]) hu1 ?_ (hr:=fun u hu=>by go_simp);refine ahN 6 (.agg #[iN qi h',sL ta' n1 tc',sL la' n2 lc',sL pa' n3 pc']) hu1 ?_ (hr:=fun u hu=>by go_simp);refine ahN 7 (iN qi al) hu1 ?_ (hr:=fun u hu=>by go_simp);obtain⟨g1,g2⟩:=fin b6 u1 hus hu1 ⟨_,_,_,_,hr⟩;refine ahQ 9 (h:=ah1 (w':=((((u1.setCell ⟨b6,0,none⟩ (iN qi h')).setCell ⟨b6,1,none⟩ (sL ta' n1 tc')).setCell ⟨b6,2,none⟩ (sL la' n2 lc')).setCell ⟨b6,3,none⟩ (sL pa' n3 pc'))) ?_ ⟨fun _=>g2, ?_⟩)
   ·obtain⟨hz',c0,c1,c2,c3,f0,f1,f2,f3⟩:=hr;go_simp
   refine ahN 10 (iN qi al) g2 ?_ (hr:=fun u hu=>by go_simp);refine ahZ ?_;have hK:=K _ _ hus g2 g1;clear K;go_simp;exact hK
 ·refine ah0 (v:= pN (some ⟨W.drew.heap.size,0,none⟩)) (w':=W.drew.alloc (cL #[iN qi 0,sL none 0 0,sL none 0 0,sL none 0 0] 73)) (by go_simp) ⟨fun _=>hW.alloc hW.size _, ?_⟩;have hn:=ahT W.drew 73 (iN qi 0) (sL none 0 0) (sL none 0 0) (sL none 0 0);have hua:=hW.alloc hW.size (cL #[iN qi 0,sL none 0 0,sL none 0 0,sL none 0 0] 73);have hus:=hW.size;generalize W.drew.alloc (cL #[iN qi 0,sL none 0 0,sL none 0 0,sL none 0 0] 73)=ua at *;generalize W.drew.heap.size=b6 at *;refine ahQ 3 (h:= ?_);refine ahW (f:=40) (args:= #[.agg #[iN qi h,sL ta nt tc,sL la nl lc,sL pa np pc],iN qi n]) (w':=ua) (by go_simp) ((H69 _ hua).mono ?_);rintro e u ⟨rfl,hb⟩;have hu:bX W.heap.size W u:=hua.trans (hb.mono hua.size);refine⟨_,rfl,fun _=>hu, ?_⟩;have hr0:=hn.below hb hn.z;refine ahQ 4 (h:= ?_);refine ahW (f:=39) (args:= #[.agg #[iN qi h,sL ta nt tc,sL la nl lc,sL pa np pc],.bool bt]) (w':=u) (by go_simp) ((H78 _ hu).mono ?_);rintro e u1 ⟨rfl,hb1⟩;have hu1:bX W.heap.size W u1:=hu.trans (hb1.mono hu.size);refine⟨_,rfl,fun _=>hu1, ?_⟩;have hr:=hr0.below hb1 hr0.z;refine ahN 5 (.tuple #[.agg #[iN qi h',sL ta' n1 tc',sL la' n2 lc',sL pa' n3 pc'],iN qi al]) hu1 ?_ (hr:=fun u hu=>by go_simp);refine ahN 6 (.agg #[iN qi h',sL ta' n1 tc',sL la' n2 lc',sL pa' n3 pc']) hu1 ?_ (hr:=fun u hu=>by go_simp);refine ahN 7 (iN qi al) hu1 ?_ (hr:=fun u hu=>by go_simp);obtain⟨g1,g2⟩:=fin b6 u1 hus hu1 ⟨_,_,_,_,hr⟩;refine ahQ 9 (h:=ah1 (w':=((((u1.setCell ⟨b6,0,none⟩ (iN qi h')).setCell ⟨b6,1,none⟩ (sL ta' n1 tc')).setCell ⟨b6,2,none⟩ (sL la' n2 lc')).setCell ⟨b6,3,none⟩ (sL pa' n3 pc'))) ?_ ⟨fun _=>g2, ?_⟩)
  ·obtain⟨hz',c0,c1,c2,c3,f0,f1,f2,f3⟩:=hr;go_simp
  refine ahN 10 (iN qi al) g2 ?_ (hr:=fun u hu=>by go_simp);refine ahZ ?_;have hK:=K _ _ hus g2 g1;clear K;go_simp;exact hK
theorem aop (V:BkV) (B:Bk) (k n A:Int) (w:wD) (hs:aB w V B) (hv:Vars w) (hA:A=fF B (btw k 0 ((B.pairs.length:Int)-1))) (hne:A≠0):
  cF tP 10 #[V.val B,iN qi k,iN qi n] w fun e w'=>e= rT (.tuple #[iN qi 0,iN qi A])/\bX w.heap.size w w':=by
 obtain⟨ta,la,pa,tc,lc,pc⟩:=V;have Hs:=lH hs;have Hv:=lH hv;have H0:Hid (∀u,cF tP 40 #[.agg #[iN qi B.hours,sL ta B.towns.length tc,sL la B.links.length lc,sL pa B.pairs.length pc],iN qi k] u fun e u'=>e= rT (.bool (btw k 0 ((B.pairs.length:Int)-1)))/\bX u.heap.size u u'):=lH fun u=>c83 ⟨ta,la,pa,tc,lc,pc⟩ B k u Hs.out.np;generalize btw k 0 ((B.pairs.length:Int)-1)=bt at *;have HB:Hid (∀u,bX w.heap.size w u->cF tP 39 #[.agg #[iN qi B.hours,sL ta B.towns.length tc,sL la B.links.length lc,sL pa B.pairs.length pc],.bool bt] u fun e u'=>e= rT (.tuple #[.agg #[iN qi 0,sL none 0 0,sL none 0 0,sL none 0 0],iN qi A])/\bX u.heap.size u u'):=lH fun u hu=>(c78 ⟨ta,la,pa,tc,lc,pc⟩ B bt u (Hs.out.below hu (nR _)) (Hv.out.v2.below hu (nR _))).mono fun _ _ h=>⟨by rw[h.1,<-hA,lC hne],h.2⟩;clear hs hv hA;go_enter Tryz.func10,Tryz.ntmps10
 go_wp2_with fail
 generalize hWd:w.alloc (cL #[iN qi B.hours,sL ta B.towns.length tc,sL la B.links.length lc,sL pa B.pairs.length pc] 26)=W;have HBW:Hid (bX w.heap.size w W):=lH (by subst hWd;exact(bR _ _).alloc (nR _) _);have k0:W.cell? ⟨w.heap.size,0,none⟩=some (iN qi B.hours):=by subst hWd;go_simp
 have k1:W.cell? ⟨w.heap.size,1,none⟩=some (sL ta B.towns.length tc):=by subst hWd;go_simp
 have k2:W.cell? ⟨w.heap.size,2,none⟩=some (sL la B.links.length lc):=by subst hWd;go_simp
 have k3:W.cell? ⟨w.heap.size,3,none⟩=some (sL pa B.pairs.length pc):=by subst hWd;go_simp
 clear hWd;refine aoc _ w.heap.size k n bt 0 none none none 0 0 0 0 0 0 A W B.hours ta la pa B.towns.length B.links.length B.pairs.length tc lc pc k0 k1 k2 k3 (fun u _=>H0.out u) (fun u hu=>HB.out u (HBW.out.trans (hu.mono HBW.out.size))) ?_;intro b8 w' hb8 hbel hrow;have HBw':Hid (bX w.heap.size w w'):=lH (HBW.out.trans (hbel.mono HBW.out.size));clear k0 k1 k2 k3 hb8 hbel hrow;go_wp2
 go_ret2
 exact⟨rfl,HBw'.out⟩
theorem aoq (V:BkV) (B:Bk) (k n:Int) (w:wD) (hs:aB w V B) (hv:Vars w) (hA:fF B (btw k 0 ((B.pairs.length:Int)-1))=0) (hn:btw n 0 9999=false):
  cF tP 10 #[V.val B,iN qi k,iN qi n] w fun e w'=>e= rT (.tuple #[iN qi 0,iN qi 1])/\bX w.heap.size w w':=by
 obtain⟨ta,la,pa,tc,lc,pc⟩:=V;have Hn:=lH hn;have Hs:=lH hs;have Hv:=lH hv;have H0:Hid (∀u,cF tP 40 #[.agg #[iN qi B.hours,sL ta B.towns.length tc,sL la B.links.length lc,sL pa B.pairs.length pc],iN qi k] u fun e u'=>e= rT (.bool (btw k 0 ((B.pairs.length:Int)-1)))/\bX u.heap.size u u'):=lH fun u=>c83 ⟨ta,la,pa,tc,lc,pc⟩ B k u Hs.out.np;generalize btw k 0 ((B.pairs.length:Int)-1)=bt at *;have HB:Hid (∀u,bX w.heap.size w u->cF tP 39 #[.agg #[iN qi B.hours,sL ta B.towns.length tc,sL la B.links.length lc,sL pa B.pairs.length pc],.bool bt] u fun e u'=>e= rT (.tuple #[.agg #[iN qi B.hours,sL ta B.towns.length tc,sL la B.links.length lc,sL pa B.pairs.length pc],iN qi 0])/\bX u.heap.size u u'):=lH fun u hu=>(c78 ⟨ta,la,pa,tc,lc,pc⟩ B bt u (Hs.out.below hu (nR _)) (Hv.out.v2.below hu (nR _))).mono fun _ _ h=>⟨by rw[h.1,hA];rfl,h.2⟩;clear hs hv hA hn;go_enter Tryz.func10,Tryz.ntmps10
 go_wp2_with fail
 generalize hWd:w.alloc (cL #[iN qi B.hours,sL ta B.towns.length tc,sL la B.links.length lc,sL pa B.pairs.length pc] 26)=W;have HBW:Hid (bX w.heap.size w W):=lH (by subst hWd;exact(bR _ _).alloc (nR _) _);have k0:W.cell? ⟨w.heap.size,0,none⟩=some (iN qi B.hours):=by subst hWd;go_simp
 have k1:W.cell? ⟨w.heap.size,1,none⟩=some (sL ta B.towns.length tc):=by subst hWd;go_simp
 have k2:W.cell? ⟨w.heap.size,2,none⟩=some (sL la B.links.length lc):=by subst hWd;go_simp
 have k3:W.cell? ⟨w.heap.size,3,none⟩=some (sL pa B.pairs.length pc):=by subst hWd;go_simp
 clear hWd;refine aoc _ w.heap.size k n bt B.hours ta la pa tc lc pc B.towns.length B.links.length B.pairs.length 0 W B.hours ta la pa B.towns.length B.links.length B.pairs.length tc lc pc k0 k1 k2 k3 (fun u _=>H0.out u) (fun u hu=>HB.out u (HBW.out.trans (hu.mono HBW.out.size))) ?_;intro b8 w' hb8 hbel hrow;have HBw':Hid (bX w.heap.size w w'):=lH (HBW.out.trans (hbel.mono HBW.out.size));clear k0 k1 k2 k3 hb8 hbel hrow
 go_wp2_with fail
 refine(c69 n 0 9999 _).mono ?_;rintro e w0 ⟨rfl,rfl⟩;rw[Hn.out];go_wp2
 go_ret2
 exact⟨rfl,HBw'.out⟩
def okA (B:Bk) (i:Nat) (lim:Int) (n:Nat):Bool:=(gtr i (n:Int) (iM B) B).2&&decide ((aC (gtr i (n:Int) (iM B) B).1 aT).2<=lim)
def an3 (B:Bk) (i:Nat) (lim:Int):Nat->Nat
 | 0=>0
 |n+1=>if okA B i lim (n+1)=true then n+1 else an3 B i lim n
theorem aod (B:Bk) (i:Nat) (lim:Int) (n:Nat):BI B i lim n= !okA B i lim (n+1):=by
 unfold BI okA;rw[show (((n+1 :Nat):Int))=(n:Int)+1 by omega,Bool.not_and]
 congr 1
 by_cases h:lim<(aC (gtr i ((n:Int)+1) (iM B) B).1 aT).2
 ·rw[decide_eq_true h,decide_eq_false (by omega)];rfl
 ·rw[decide_eq_false h,decide_eq_true (by omega)];rfl
theorem aoe {B:Bk} {i h g:Nat} {y:Int×Int} (hi:i<B.pairs.length) (hne:g≠h):iD (fD B i h y) i g=iD B i g:=by
 have hl:i<(fD B i h y).pairs.length:=by rw[ag9];exact hi
 have hq:=lG hl;have hp:=lG hi;obtain⟨_,_,_,e⟩:=aha hp hq;unfold iD;rw[hq,hp];simp only[Option.bind_some];rw[e g,if_neg (by omega)]
theorem aof {i:Nat} {n:Int} (hn:0<=n): ∀(l:List Int) (B C:Bk),B.alarm=0->C.alarm=0->Alike B C->(∀g j,B.call true g j<=C.call true g j)->i<B.pairs.length->(∀x∈l,0<=x/\x<B.hours)->l.Nodup->(∀x∈l,iD C i x.toNat=iD B i x.toNat)->(gtr i (n+1) l C).2=true->
  (gtr i n l B).2=true/\(aC (gtr i n l B).1 aT).2<=(aC (gtr i (n+1) l C).1 aT).2
 | [],B,C,hB,hC,hal,hle,_,_,_,_,_=>⟨rfl,agG hal hB hC hle⟩
 |x::l,B,C,hB,hC,hal,hle,hi,hl,hnd,hb,h=>by
  obtain⟨h0,h1⟩:=hl x (List.mem_cons_self ..);obtain⟨k,rfl⟩: ∃k:Nat,x=(k:Int):=⟨x.toNat,by omega⟩;have hbk:=hb _ (List.mem_cons_self ..);rw[Int.toNat_natCast] at hbk;unfold gtr at h ⊢;rw[Int.toNat_natCast] at h ⊢;have hbd:=ahh hB hi h1;rw[hbk] at h ⊢;by_cases c:dw (nT (iD B i k) (n+1))=true
  ·rw[if_pos c] at h ⊢;have c2:dw (nT (iD B i k) n)=true:=by
    simp[dw,nT] at c ⊢;omega
   rw[if_pos c2];have hiC:i<C.pairs.length:=by rw[hal.len];exact hi
   have hnd2:=List.nodup_cons.1 hnd;refine aof hn l (fD B i k (nT (iD B i k) n)) (fD C i k (nT (iD B i k) (n+1))) (ahq hB c2) (ahq hC c) (((ahr B i k _).symm.trans hal).trans (ahr C i k _)) ?_ (by rw[ag9];exact hi) (fun y hy=>hl y (List.mem_cons_of_mem _ hy)) hnd2.2 ?_ h
   ·intro g j;have hc1:=ajO hB hi h1 n g j;have hc2:=ajO hC hiC (h:=k) (by rw[hal.hours];exact h1) (n+1) g j;rw[hbk] at hc2;rw[hc1,hc2];have:=hle g j
    split<;>omega
   ·intro y hy;obtain⟨y0,y1⟩:=hl y (List.mem_cons_of_mem _ hy);have hne:y.toNat≠k:=by
     intro e;apply hnd2.1;have:y=(k:Int):=by omega
     rwa [<-this]
    rw[aoe hiC hne,aoe hi hne];exact hb y (List.mem_cons_of_mem _ hy)
  ·rw[if_neg c] at h
   cases h
theorem aor (B:Bk):(iM B).Nodup:=by
 unfold iM;refine List.Pairwise.map _ ?_ List.nodup_range;intro a b h e;exact h (by omega)
theorem aos {B:Bk} {i:Nat} {lim:Int} (hB:B.alarm=0) (hi:i<B.pairs.length) {n:Nat} (h:okA B i lim (n+1)=true):okA B i lim n=true:=by
 unfold okA at h ⊢;rw[Bool.and_eq_true,decide_eq_true_eq] at h ⊢;rw[show (((n+1 :Nat):Int))=(n:Int)+1 by omega] at h;obtain⟨h1,h2⟩:=aof (n:=(n:Int)) (by omega) (iM B) B B hB hB (Alike.refl B) (fun _ _=>Int.le_refl _) hi (fun x hx=>aaM hx) (aor B) (fun _ _=>rfl) h.1;exact⟨h1,by omega⟩
theorem aog {B:Bk} {i:Nat} {lim:Int} (hB:B.alarm=0) (hi:i<B.pairs.length) (N:Nat) (h1: ∀k,k<N->okA B i lim (k+1)=true) (h2:N<5->okA B i lim (N+1)=false): ∀k,k<=5->an3 B i lim k=min k N
 | 0,_=>by simp[an3]
 |k+1,hk=>by
  unfold an3;by_cases c:k<N
  ·rw[if_pos (h1 k c)];omega
  ·have hno:okA B i lim (k+1)=false:=by
    have h3:=h2 (by omega);have: ∀d,okA B i lim (N+1+d)=false:=by
     intro d
     induction d with
     |zero=>exact h3
     |succ d ih=>
      cases e:okA B i lim (N+1+(d+1)) with
      |false=>rfl
      |true=>
       have:=aos hB hi (n:=N+1+d) e;rw[ih] at this
       cases this
    have:=this (k-N);rwa [show N+1+(k-N)=k+1 by omega] at this
   rw[if_neg (by rw[hno];decide),aog hB hi N h1 h2 k (by omega)];omega
theorem aot {B:Bk} {i:Nat} {lim:Int} (hB:B.alarm=0) (hi:i<B.pairs.length):an3 B i lim 5=iE B i lim 5 0:=by
 obtain⟨_,h2,h3,h4⟩:=ajz (B:=B) (i:=i) (lim:=lim) 5 0;rw[aog hB hi (iE B i lim 5 0) (fun k hk=>by have:=h3 k (Nat.zero_le _) hk;rw[aod] at this;simpa using this) (fun hk=>by have:=h4 (by omega);rw[aod] at this;simpa using this) 5 (nR _)];omega
def an1 (B:Bk) (k n:Int):vL:=if fF B (btw k 0 ((B.pairs.length:Int)-1))=0 then mW B k.toNat n else .tuple #[iN qi 0,iN qi (fF B (btw k 0 ((B.pairs.length:Int)-1)))]
theorem ajF {B:Bk} {b:Bool} (h:fF B b=0):B.alarm=0/\b=true:=by
 unfold fF at h;by_cases hA:B.alarm=0
 ·rw[if_pos hA] at h
  cases b with
  |true=>exact⟨hA,rfl⟩
  |false=>cases h
 ·rw[if_neg hA] at h;exact absurd h hA
theorem m10 (V:BkV) (B:Bk) (k n:Int) (w:wD) (hs:aB w V B) (hv:Vars w) (hpc:V.pa=none->V.pc=0):
  cF tP 10 #[V.val B,iN qi k,iN qi n] w fun e w'=>e= rT (an1 B k n)/\bX w.heap.size w w':=by
 by_cases hA:fF B (btw k 0 ((B.pairs.length:Int)-1))=0
 ·obtain⟨h0,hk⟩:=ajF hA;have hq:an1 B k n=mW B k.toNat n:=by unfold an1;rw[if_pos hA]
  rw[hq];obtain⟨i,rfl⟩: ∃i:Nat,k=(i:Int):=⟨k.toNat,by simp[btw] at hk;omega⟩;rw[Int.toNat_natCast]
  cases hn:btw n 0 9999 with
  |true=>exact NH V B i n w hs hv hpc (by simp[btw] at hk;omega) h0 hn
  |false=>
   have he:mW B i n= .tuple #[iN qi 0,iN qi 1]:=by unfold mW;rw[if_neg (by simp[h0]),if_pos hn]
   rw[he];exact aoq V B (i:Int) n w hs hv hA hn
 ·have hq:an1 B k n= .tuple #[iN qi 0,iN qi (fF B (btw k 0 ((B.pairs.length:Int)-1)))]:=by unfold an1;rw[if_neg hA]
  rw[hq];exact aop V B k n _ w hs hv rfl hA
theorem r11 (V:BkV) (B:Bk) (k n:Int) (w:wD) (hs:aB w V B) (hz: ∀t∈B.towns,t.size<=1000000):
  cF tP 11 #[V.val B,iN qi k,iN qi n] w fun e w'=>e= rT (an1 B k n)/\bX w.heap.size w w':=by
 have hb0:bX w.heap.size w (w.alloc (cL #[iN qi B.hours,sL V.ta B.towns.length V.tc,sL V.la B.links.length V.lc,sL V.pa B.pairs.length V.pc] 26)):=(bR _ _).alloc (nR _) _;have HCk:=lH (r45 V B k _ (hs.below hb0 (nR _)) hz);have HB0:=lH hb0;clear hb0 hz;by_cases hA1:fF B (btw k 0 ((B.pairs.length:Int)-1))=0
 ·obtain⟨hA,hk⟩:=ajF hA1;have hG:=gY hA;have hq:an1 B k n=mW B k.toNat n:=by unfold an1;rw[if_pos hA1]
  obtain⟨i,rfl⟩: ∃i:Nat,k=(i:Int):=⟨k.toNat,by simp[btw] at hk;omega⟩;rw[hq,Int.toNat_natCast];rw[hA1] at HCk;have hip:i<B.pairs.length:=by simp[btw] at hk;omega
  cases hn:btw n 0 9999 with
  |false=>
   have HE:Hid (mW B i n= .tuple #[iN qi 0,iN qi 1]):=lH (by unfold mW;rw[if_neg (by simp[hA]),if_pos hn]);rw[HE.out];have Hn:=lH hn;obtain⟨ta,la,pa,tc,lc,pc⟩:=V;simp only[BkV.val] at *;clear hs hA1 hA hk hG hq hip hn HE;go_enter Tryz.func11,Tryz.ntmps11
   go_wp2_with fail
   refine HCk.out.mono ?_;rintro e w1 ⟨rfl,hb1⟩;have HB1:=lH (HB0.out.trans (hb1.mono (by simp)));clear hb1 HCk HB0
   go_wp2_with fail
   refine(gU _ _ _ _).mono ?_;rintro e w2 ⟨rfl,rfl⟩;rw[Hn.out];go_wp2
   go_ret2
   exact⟨rfl,HB1.out⟩
  |true=>
   have hE:mW B i n=if n<(aC B aT).2 then .tuple #[iN qi 0,iN qi 9] else .tuple #[iN qi ((an3 B i n 5 :Nat):Int),iN qi 0]:=by unfold mW;rw[if_neg (by simp[hA]),if_neg (by simp[hn]),aot hA hip]
   have hn2:0<=n/\n<=9999:=by simp[btw] at hn;omega
   have Hn:=lH hn;have H48:Hid (∀u,bX w.heap.size w u->cF tP 48 #[V.val B] u _):=lH fun u hu=>r48 V B hG u (hs.below hu (nR _));have H51:Hid (∀(j:Nat) u,j<=5->bX w.heap.size w u->cF tP 51 #[V.val B,iN qi (i:Int),iN qi (j:Int)] u fun e u'=> ∃(V':BkV) (C:Bk),e= rT (.tuple #[V'.val C,.bool (gtr i (j:Int) (iM B) B).2])/\(okA B i n j=if (gtr i (j:Int) (iM B) B).2=true then decide ((aC C aT).2<=n) else false)/\(∀x,bX u'.heap.size u' x->cF tP 48 #[V'.val C] x fun e y=>e= rT (iN qi (aC C aT).2)/\bX x.heap.size x y)/\(0<=(aC C aT).2/\(aC C aT).2<=17820)/\bX u.heap.size u u'):=lH fun j u hj hu=>by
    refine(r51 V B i (j:Int) u (hs.below hu (nR _)) hA hip (by omega)).mono ?_;rintro e u' ⟨V',C,rfl,hin,hC,hgt,hb⟩;have hGC:=gY hC;refine⟨V',C,rfl, ?_,fun x hx=>r48 V' C hGC x (hin.below hx (nR _)),amS hGC aT,hb⟩;unfold okA
    cases hg:(gtr i (j:Int) (iM B) B).2 with
    |false=>rw[Bool.false_and,if_neg (by decide)]
    |true=>rw[Bool.true_and,if_pos rfl,hgt hg]
   have hf:=amS hG aT;have hM: ∀j:Nat,an3 B i n (j+1)=if okA B i n (j+1)=true then j+1 else an3 B i n j:=fun _=>rfl
   have hM0:an3 B i n 0=0:=rfl;have hM5: ∀j:Nat,an3 B i n j<=j:=by
    intro j
    induction j with
    |zero=>exact nR _
    |succ j ih=>rw[hM];split<;>omega
   have HM:=lH hM;have HM0:=lH hM0;have HM5:=lH hM5;rw[hE];obtain⟨MV,hMV⟩: ∃v,v=if n<(aC B aT).2 then Value.tuple #[iN qi 0,iN qi 9] else .tuple #[iN qi ((an3 B i n 5 :Nat):Int),iN qi 0]:=⟨_,rfl⟩
   rw[<-hMV];have HMV:=lH hMV;generalize an3 B i n=M at *;generalize okA B i n=O at *;generalize (aC B aT)=R at *;generalize hGf:(fun j:Nat=>(gtr i (j:Int) (iM B) B).2)=G at *;have hGj: ∀j:Nat,(gtr i (j:Int) (iM B) B).2=G j:=fun j=>congrFun hGf j;simp only[hGj] at H51;obtain⟨ta,la,pa,tc,lc,pc⟩:=V;simp only[BkV.val] at *;clear hs hA1 hA hk hG hq hip hn hE hM hM0 hM5 hMV hGf hGj;go_enter Tryz.func11,Tryz.ntmps11
   go_wp2_with fail
   refine HCk.out.mono ?_;rintro e w1 ⟨rfl,hb1⟩;have HB1:=lH (HB0.out.trans (hb1.mono (by simp)));have HX:=lH (amL (V:=⟨ta,la,pa,tc,lc,pc⟩) (u:=w1) (by simpa using hb1));obtain⟨p0,p1,p2,p3⟩:=HX.out;clear hb1 HCk HB0
   go_wp2_with fail
   refine(gU _ _ _ _).mono ?_;rintro e w2 ⟨rfl,rfl⟩;rw[Hn.out]
   go_wp2_with fail
   refine(H48.out w1 HB1.out).mono ?_;rintro e w2 ⟨rfl,hb2⟩;have HB2:=lH (HB1.out.trans (hb2.mono HB1.out.size));have HCX:Hid (∀u,bX w2.heap.size w2 u->u.cell? ⟨w.heap.size,0,none⟩=some (iN qi B.hours)/\u.cell? ⟨w.heap.size,1,none⟩=some (sL ta B.towns.length tc)/\u.cell? ⟨w.heap.size,2,none⟩=some (sL la B.links.length lc)/\u.cell? ⟨w.heap.size,3,none⟩=some (sL pa B.pairs.length pc)):=lH fun u hu=>⟨aoF hu (aoF hb2 p0 (nR _)) (nR _),aoF hu (aoF hb2 p1 (nR _)) (nR _),aoF hu (aoF hb2 p2 (nR _)) (nR _),aoF hu (aoF hb2 p3 (nR _)) (nR _)⟩;clear hb2 p0 p1 p2 p3 HX;by_cases hlk:n<R.2
   ·go_wp2
    go_ret2
    exact⟨congrArg Ending.returned (HMV.out.trans (if_pos hlk)).symm,HB2.out⟩
   ·go_wp2_with fail
    go_loopw [9,10] (fun v j wr=> ∃m:Nat,m<=5/\j= iN qi ((m:Int)+1)/\v= iN qi (M m:Int)/\bX w2.heap.size w2 wr) (fun _ j _=>6-(intOf j).toNat)
    case atStart=>exact⟨0,by decide,rfl,by rw[HM0.out];rfl,bR _ _⟩
    case round=>
     obtain⟨m,hm,rfl,rfl,hb⟩:=hrel;have Hb:=lH hb;have hmm:=HM5.out m;obtain⟨c0,c1,c2,c3⟩:=HCX.out wr hb;by_cases hlt:m<5
     ·have hlt2:(m:Int)+1<=5:=by omega
      have HBw:=lH (HB2.out.trans (hb.mono HB2.out.size));have H51m:=lH (H51.out (m+1) wr (by omega) HBw.out);rw[show (((m+1 :Nat)):Int)=(m:Int)+1 by omega] at H51m;clear hb
      go_wp2_with fail
      refine H51m.out.mono ?_;rintro e w3 ⟨⟨ta',la',pa',tc',lc',pc'⟩,C,rfl,hok,h48,hfc,hb3⟩;have H48C:=lH h48;have Hok:=lH hok;have Hb3:=lH (Hb.out.trans (hb3.mono Hb.out.size));generalize aC C aT=RC at *;simp only at H48C ⊢;clear h48 hok hb3 c0 c1 c2 c3
      cases hg:G (m+1) with
      |false=>
       have hMm:M (m+1)=M m:=by rw[HM.out,Hok.out,hg];simp
       have HMm:=lH hMm;clear hMm;go_wp2;go_roundw
       case rel=>exact⟨m+1,by omega,by go_num,by rw[HMm.out],Hb3.out.alloc Hb3.out.size _⟩
       case measure=>simp[intOf];omega
      |true=>
       by_cases hle:RC.2<=n
       ·have hMm:M (m+1)=m+1:=by rw[HM.out,Hok.out,hg];simp[hle]
        have HMm:=lH hMm;clear hMm
        go_wp2_with fail
        refine(H48C.out _ ((bR _ _).alloc (nR _) _)).mono ?_;rintro e w4 ⟨rfl,hb4⟩;have Hb4:=lH ((Hb3.out.alloc Hb3.out.size _).trans (hb4.mono (Hb3.out.alloc Hb3.out.size _).size));clear hb4;go_wp2;go_roundw
        case rel=>exact⟨m+1,by omega,by go_num,by rw[HMm.out];rfl,Hb4.out⟩
        case measure=>simp[intOf];omega
       ·have hMm:M (m+1)=M m:=by rw[HM.out,Hok.out,hg];simp[hle]
        have HMm:=lH hMm;clear hMm
        go_wp2_with fail
        refine(H48C.out _ ((bR _ _).alloc (nR _) _)).mono ?_;rintro e w4 ⟨rfl,hb4⟩;have Hb4:=lH ((Hb3.out.alloc Hb3.out.size _).trans (hb4.mono (Hb3.out.alloc Hb3.out.size _).size));clear hb4;go_wp2;go_roundw
        case rel=>exact⟨m+1,by omega,by go_num,by rw[HMm.out],Hb4.out⟩
        case measure=>simp[intOf];omega
     ·obtain rfl:m=5:=by omega
      clear hb;go_wp2
      go_ret2
      exact⟨congrArg Ending.returned (HMV.out.trans (if_neg (by omega))).symm,HB2.out.trans (Hb.out.mono HB2.out.size)⟩
 ·have HR:Hid (an1 B k n= .tuple #[iN qi 0,iN qi (fF B (btw k 0 ((B.pairs.length:Int)-1)))]):=lH (by unfold an1;rw[if_neg hA1]);rw[HR.out];generalize fF B (btw k 0 ((B.pairs.length:Int)-1))=A at *;obtain⟨ta,la,pa,tc,lc,pc⟩:=V;simp only[BkV.val] at *;clear hs HR;go_enter Tryz.func11,Tryz.ntmps11
  go_wp2_with fail
  refine HCk.out.mono ?_;rintro e w1 ⟨rfl,hb1⟩;have HB1:=lH (HB0.out.trans (hb1.mono (by simp)));clear hb1 HCk HB0;go_wp2
  go_ret2
  exact⟨rfl,HB1.out⟩
theorem bI.kept {w w':wD} {n:Nat} {V:BkV} {B:Bk} {O:qZ} (h:bI w n V B O) (hk:Kept w.heap.size w w'):bI w' n V B O:=by
 have c: ∀{b o:Nat} {v:vL},w.cell? ⟨b,o,none⟩=some v->w'.cell? ⟨b,o,none⟩=some v:=fun h=>dV hk (nR _) h;have hrp:bG w' V.pa:=fun a e=>by
  obtain⟨x,t,z,h0⟩:=h.rp a e;exact⟨x,t,z,(hk.block _ (Array.getElem?_eq_some_iff.1 h0).1).trans h0⟩
 refine⟨h.ta,h.la,h.pa,h.pc,hrp,h.tc,fun i t ht=>c (h.towns i t ht),fun i L hL=> ?_,fun i L k s hL hs=> ?_,fun i p hp=> ?_,fun i p k x hp hx=> ?_,fun i p hp=> ?_,h.dis,h.lo⟩
 ·obtain⟨h0,h1,sc,h2⟩:=h.links i L hL;exact⟨c h0,c h1,sc,c h2⟩
 ·exact⟨c (h.steps i L k s hL hs).1,c (h.steps i L k s hL hs).2⟩
 ·obtain⟨h0,h1,sc,h2⟩:=h.pairs i p hp;exact⟨c h0,c h1,sc,c h2⟩
 ·exact⟨c (h.calls i p k x hp hx).1,c (h.calls i p k x hp hx).2⟩
 ·have:=h.free i p hp;exact⟨⟨Nat.lt_of_lt_of_le this.1.1 hk.size,this.1.2⟩,fun j=>by rw[hk.frozen (p:=⟨_,j,none⟩) this.1.1];exact this.2 j⟩
structure afY (w:wD) (b:Nat) (V:BkV) (B:Bk):Prop where
 c0:w.cell? ⟨b,0,none⟩=some (iN qi B.hours)
 c1:w.cell? ⟨b,1,none⟩=some (sL V.ta B.towns.length V.tc)
 c2:w.cell? ⟨b,2,none⟩=some (sL V.la B.links.length V.lc)
 c3:w.cell? ⟨b,3,none⟩=some (sL V.pa B.pairs.length V.pc)
 lt:b<w.heap.size
 fr: ∀j,w.frozen? ⟨b,j,none⟩=false
theorem afY.kept {w w':wD} {b:Nat} {V:BkV} {B:Bk} (h:afY w b V B) (hk:Kept w.heap.size w w'):afY w' b V B:=
 ⟨dV hk (nR _) h.c0,dV hk (nR _) h.c1,dV hk (nR _) h.c2,dV hk (nR _) h.c3,Nat.lt_of_lt_of_le h.lt hk.size,fun j=>by rw[hk.frozen (p:=⟨b,j,none⟩) h.lt];exact h.fr j⟩
section
variable {f:FuncId} {N d s t:Nat} {a:Act} {w:wD} {l:List (Nat×vL)} {ops:Array Oper} {i j:Nat} {rest:List Nat} {kk:List Item} {R:vL->wD->Prop} {o o2:Oper}
end
section
variable {u:wD} {b1:Nat} {V:BkV} {B:Bk} {k n:Int}
theorem aou {v0:vL} (hB:dL u b1 V B) (hpc:V.pa=none->V.pc=0) (hv:an0 B k n=v0):iK tP 8 #[V.val B,iN qi k,iN qi n] u fun v w'=>v=v0/\Kept u.heap.size u w':=by
 subst hv;exact acs (X:=fun v _=>v=an0 B k n) (fun _ _ _ h _=>h) fun τ=>(m8 V B k n (u.tp τ 0 noJ) (hB.kept jD).book (hB.kept jD).vars hpc).mono fun _ _ ⟨e1,hb⟩=>⟨_,e1,rfl,hb⟩
theorem aov {v0:vL} (hB:dL u b1 V B) (hz: ∀t∈B.towns,t.size<=1000000) (hv:an0 B k n=v0):iK tP 9 #[V.val B,iN qi k,iN qi n] u fun v w'=>v=v0/\Kept u.heap.size u w':=by
 subst hv;exact acs (X:=fun v _=>v=an0 B k n) (fun _ _ _ h _=>h) fun τ=>(r9 V B k n (u.tp τ 0 noJ) (hB.kept jD).book hz).mono fun _ _ ⟨e1,hb⟩=>⟨_,e1,rfl,hb⟩
theorem aow {v0:vL} (hB:dL u b1 V B) (hpc:V.pa=none->V.pc=0) (hv:an1 B k n=v0):iK tP 10 #[V.val B,iN qi k,iN qi n] u fun v w'=>v=v0/\Kept u.heap.size u w':=by
 subst hv;exact acs (X:=fun v _=>v=an1 B k n) (fun _ _ _ h _=>h) fun τ=>(m10 V B k n (u.tp τ 0 noJ) (hB.kept jD).book (hB.kept jD).vars hpc).mono fun _ _ ⟨e1,hb⟩=>⟨_,e1,rfl,hb⟩
theorem aox {v0:vL} (hB:dL u b1 V B) (hz: ∀t∈B.towns,t.size<=1000000) (hv:an1 B k n=v0):iK tP 11 #[V.val B,iN qi k,iN qi n] u fun v w'=>v=v0/\Kept u.heap.size u w':=by
 subst hv;exact acs (X:=fun v _=>v=an1 B k n) (fun _ _ _ h _=>h) fun τ=>(r11 V B k n (u.tp τ 0 noJ) (hB.kept jD).book hz).mono fun _ _ ⟨e1,hb⟩=>⟨_,e1,rfl,hb⟩
theorem aoy: ∃c s:Int,an0 B k n= .tuple #[iN qi c,iN qi s]:=by
 unfold an0
 split
 ·unfold nU
  split
  ·split<;>exact⟨_,_,rfl⟩
  ·exact⟨_,_,rfl⟩
 ·exact⟨_,_,rfl⟩
theorem aoz: ∃c s:Int,an1 B k n= .tuple #[iN qi c,iN qi s]:=by
 unfold an1
 split
 ·unfold mW
  split
  ·exact⟨_,_,rfl⟩
  ·split
   ·exact⟨_,_,rfl⟩
   ·split<;>exact⟨_,_,rfl⟩
 ·exact⟨_,_,rfl⟩
end
end Go.Proofs.YtaikibfkggglgaaGreatDoor
