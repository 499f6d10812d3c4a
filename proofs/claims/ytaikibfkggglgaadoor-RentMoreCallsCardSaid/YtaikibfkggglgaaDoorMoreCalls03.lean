/- A part of the proof of a law; no conditions of its own. -/
import Derived.Test.YtaikibfkggglgaaDoorMoreCalls02
set_option maxRecDepth 100000
open Go renaming undef→ud
open Nat renaming le_refl→nR
open Go.Lib renaming hid→lH
open Go.RowKit.Below renaming refl→bR
open Go.Proofs.Tryd renaming prog→tP
open List renaming getElem?_eq_getElem→lG
set_option maxHeartbeats 4000000
namespace Go.Proofs.YtaikibfkggglgaaDoor
open Go.RowKit Go.Rent Go.Tp Go.Conc
theorem ajA (a b:Int) (w:World):Calls tP 44 #[.int .i64 a,.int .i64 b] w fun e w'=>e= .returned (.agg #[.int .i64 a,.int .i64 b])/\Below w.heap.size w w':=by
 go_enter Tryd.func44,Tryd.ntmps44;go_wp2;exact bodyPost_ret (v:= .agg #[.int .i64 a,.int .i64 b]) (by simp[results,Tryd.results44,go_sem]) rfl ⟨rfl,(bR _ _).alloc (nR _) _⟩
theorem ajB (B:Bk):(iM B).length=B.hours.toNat:=by simp[iM]
theorem ajC {B:Bk} {k:Nat} (h:k<B.hours.toNat):(iM B).drop k=(k:Int)::(iM B).drop (k+1):=by
 rw[List.drop_eq_getElem_cons (by rw[ajB];exact h)]
 congr 1
 simp[iM]
theorem ajR {B C:Bk} {i k:Nat} {n:Int} (h:k<B.hours.toNat) (hb:dw (nT (iD C i k) n)=true):gtr i n ((iM B).drop k) C=gtr i n ((iM B).drop (k+1)) (fD C i k (nT (iD C i k) n)):=by
 rw[ajC h]
 conv=>lhs;unfold gtr
 rw[Int.toNat_natCast,if_pos hb]
theorem ajS {B C:Bk} {i k:Nat} {n:Int} (h:k<B.hours.toNat) (hb:dw (nT (iD C i k) n)=false):gtr i n ((iM B).drop k) C=(C,false):=by
 rw[ajC h];unfold gtr;rw[Int.toNat_natCast,if_neg (by rw[hb];decide)]
theorem aju {w:World} {b p:Nat} {h x y:Int} {t1 t2 t3:Option Addr} {n1 n2 n3 m1 m2 m3:Nat} (r:dW w b (.int .i64 h) (.slice t1 n1 m1) (.slice t2 n2 m2) (.slice t3 n3 m3)) (h0:w.cell? ⟨b,p,none⟩=some (.int .i64 x)) (h1:w.cell? ⟨b,p+1,none⟩=some (.int .i64 y)):3<p:=by
 rcases p with _ |_ |_ |_ |p
 ·rw[Nat.zero_add,r.c1] at h1;cases h1
 ·rw[Nat.zero_add,r.c1] at h0;cases h0
 ·rw[show 0+1+1=2 from rfl,r.c2] at h0;cases h0
 ·rw[show 0+1+1+1=3 from rfl,r.c3] at h0;cases h0
 ·omega
theorem ajT {w:World} {b p:Nat} {h:Int} {s:ByteArray} {t1 t2 t3:Option Addr} {n1 n2 n3 m1 m2 m3:Nat} (r:dW w b (.int .i64 h) (.slice t1 n1 m1) (.slice t2 n2 m2) (.slice t3 n3 m3)) (h0:w.cell? ⟨b,p,none⟩=some (.string s)):3<p:=by
 rcases p with _ |_ |_ |_ |p
 ·rw[r.c0] at h0;cases h0
 ·rw[Nat.zero_add,r.c1] at h0;cases h0
 ·rw[show 0+1+1=2 from rfl,r.c2] at h0;cases h0
 ·rw[show 0+1+1+1=3 from rfl,r.c3] at h0;cases h0
 ·omega
theorem aB.set {w:World} {b k:Nat} {h:Int} {t1 t2 t3:Option Addr} {n1 n2 n3 m1 m2 m3:Nat} {V:BkV} {B:Bk} (hs:aB w V B) (r:dW w b (.int .i64 h) (.slice t1 n1 m1) (.slice t2 n2 m2) (.slice t3 n3 m3)) (hk:k<=3) (v:Value):aB (w.setCell ⟨b,k,none⟩ v) V B:=by
 have keep: ∀{c o:Nat} {x:Value},w.cell? ⟨c,o,none⟩=some x->(c=b->3<o)->(w.setCell ⟨b,k,none⟩ v).cell? ⟨c,o,none⟩=some x:=fun {c o x} h0 h1=>by
  rw[World.cell?_setCell_other _ _ _ _ (by intro e;simp only[Addr.mk.injEq] at e;have:=h1 e.1.symm;omega)];exact h0
 have band: ∀{sa:Option Addr} {l:List (Int×Int)},SlB w sa l->SlB (w.setCell ⟨b,k,none⟩ v) sa l:=fun {sa l} hb i x hx=>by
  obtain⟨c,o,e,y0,y1⟩:=hb i x hx;have hlt:c=b->3<o+i*2:=fun e=>by subst e;exact aju r y0 y1
  exact⟨c,o,e,keep y0 hlt,keep y1 fun e=>by have:=hlt e;omega⟩
 refine⟨fun i t ht=> ?_,fun i L hL=> ?_,fun i L hL=> ?_,hs.nt,hs.nl,hs.np,hs.tc⟩
 ·obtain⟨c,o,e,y0⟩:=hs.towns i t ht;exact⟨c,o,e,keep y0 fun e=>by subst e;exact ajT r y0⟩
 ·obtain⟨c,o,sa,sc,e,y0,y1,y2,y3,y4⟩:=hs.links i L hL;have hlt:c=b->3<o+i*3:=fun e=>by subst e;exact aju r y0 y1
  exact⟨c,o,sa,sc,e,keep y0 hlt,keep y1 fun e=>by have:=hlt e;omega,keep y2 fun e=>by have:=hlt e;omega,band y3,y4⟩
 ·obtain⟨c,o,sa,sc,e,y0,y1,y2,y3,y4⟩:=hs.pairs i L hL;have hlt:c=b->3<o+i*3:=fun e=>by subst e;exact aju r y0 y1
  exact⟨c,o,sa,sc,e,keep y0 hlt,keep y1 fun e=>by have:=hlt e;omega,keep y2 fun e=>by have:=hlt e;omega,band y3,y4⟩
theorem aB.put4 {w:World} {b:Nat} {h h':Int} {t1 t2 t3 s1 s2 s3:Option Addr} {n1 n2 n3 m1 m2 m3 p1 p2 p3 q1 q2 q3:Nat} {V:BkV} {B:Bk} (hs:aB w V B) (r:dW w b (.int .i64 h) (.slice t1 n1 m1) (.slice t2 n2 m2) (.slice t3 n3 m3)):
  aB ((((w.setCell ⟨b,0,none⟩ (.int .i64 h')).setCell ⟨b,1,none⟩ (.slice s1 p1 q1)).setCell ⟨b,2,none⟩ (.slice s2 p2 q2)).setCell ⟨b,3,none⟩ (.slice s3 p3 q3)) V B:=by
 have r1:dW (w.setCell ⟨b,0,none⟩ (.int .i64 h')) b (.int .i64 h') (.slice t1 n1 m1) (.slice t2 n2 m2) (.slice t3 n3 m3):=by
  obtain⟨_,c0,c1,c2,c3,f0,f1,f2,f3⟩:=r;refine aij ?_ ?_ ?_ ?_ ?_ ?_ ?_ ?_<;>go_simp
 have r2:dW ((w.setCell ⟨b,0,none⟩ (.int .i64 h')).setCell ⟨b,1,none⟩ (.slice s1 p1 q1)) b (.int .i64 h') (.slice s1 p1 q1) (.slice t2 n2 m2) (.slice t3 n3 m3):=by
  obtain⟨_,c0,c1,c2,c3,f0,f1,f2,f3⟩:=r;refine aij ?_ ?_ ?_ ?_ ?_ ?_ ?_ ?_<;>go_simp
 have r3:dW (((w.setCell ⟨b,0,none⟩ (.int .i64 h')).setCell ⟨b,1,none⟩ (.slice s1 p1 q1)).setCell ⟨b,2,none⟩ (.slice s2 p2 q2)) b (.int .i64 h') (.slice s1 p1 q1) (.slice s2 p2 q2) (.slice t3 n3 m3):=by
  obtain⟨_,c0,c1,c2,c3,f0,f1,f2,f3⟩:=r;refine aij ?_ ?_ ?_ ?_ ?_ ?_ ?_ ?_<;>go_simp
 exact(((hs.set r (by decide) _).set r1 (by decide) _).set r2 (by decide) _).set r3 (by decide) _
theorem c46 (V:BkV) (B:Bk) (i:Nat) (n:Int) (w:World) (hs:aB w V B) (hr:fH w V) (hA:B.alarm=0) (hi:i<B.pairs.length) (hn:0<=n/\n<=6):
  Calls tP 46 #[V.val B,.int .i64 (i:Int),.int .i64 n] w fun e w'=> ∃V' C,e= .returned (.tuple #[V'.val C,.bool (gtr i n (iM B) B).2])/\aB w' V' C/\fH w' V'/\C.alarm=0/\((gtr i n (iM B) B).2=true->C=(gtr i n (iM B) B).1)/\Below w.heap.size w w':=by
 obtain⟨ta,la,pa,tc,lc,pc⟩:=V;have hG:=gY hA;have hh1:=hG.fine.hours;have hnp:=hG.fine.pairs;obtain⟨H,hH⟩: ∃H:Nat,B.hours=(H:Int):=⟨B.hours.toNat,by omega⟩;have hHn:B.hours.toNat=H:=by omega
 have Hs:=lH hs;have Hr:=lH hr;have HA:=lH hA;have HH:=lH (And.intro hH hHn);clear hs hr hA hG hH hHn;go_enter Tryd.func46,Tryd.ntmps46
 go_wp2_with fail
 have hr3:=ahT w 26 (.int .i64 B.hours) (.slice ta B.towns.length tc) (.slice la B.links.length lc) (.slice pa B.pairs.length pc);have hb0:=(bR w.heap.size w).alloc (nR _) (.cells #[.int .i64 B.hours,.slice ta B.towns.length tc,.slice la B.links.length lc,.slice pa B.pairs.length pc] 26);have hz0:(w.alloc (.cells #[.int .i64 B.hours,.slice ta B.towns.length tc,.slice la B.links.length lc,.slice pa B.pairs.length pc] 26)).heap.size=w.heap.size+1:=by simp
 generalize w.alloc (.cells #[.int .i64 B.hours,.slice ta B.towns.length tc,.slice la B.links.length lc,.slice pa B.pairs.length pc] 26)=W0 at *;have hr6:=ahT W0 26 (.int .i64 0) (.slice none 0 0) (.slice none 0 0) (.slice none 0 0);have hb1:=hb0.alloc hb0.size (.cells #[.int .i64 0,.slice none 0 0,.slice none 0 0,.slice none 0 0] 26);have hs1:=(bR W0.heap.size W0).alloc (nR _) (.cells #[.int .i64 0,.slice none 0 0,.slice none 0 0,.slice none 0 0] 26);rw[hz0] at hr6;generalize W0.alloc (.cells #[.int .i64 0,.slice none 0 0,.slice none 0 0,.slice none 0 0] 26)=W1 at *;have H3:=lH (hr3.below hs1 (by omega));have H6:=lH hr6;have HB1:=lH hb1;clear hr3 hr6 hb0 hb1 hs1 hz0
 go_loopw [8] (fun j wr=> ∃(k:Nat) (C:Bk) (pa':Option Addr) (pc':Nat),k<=H/\j= .int .i64 (k:Int)/\dW wr w.heap.size (.int .i64 B.hours) (.slice ta B.towns.length tc) (.slice la B.links.length lc) (.slice pa' B.pairs.length pc')/\dW wr (w.heap.size+1) (.int .i64 0) (.slice none 0 0) (.slice none 0 0) (.slice none 0 0)/\aB wr ⟨ta,la,pa',tc,lc,pc'⟩ C/\bG wr pa'/\C.alarm=0/\Alike B C/\gtr i n (iM B) B=gtr i n ((iM B).drop k) C/\Below w.heap.size w wr) (fun j _=>H-(intOf j).toNat)
 case atStart=>exact⟨0,B,pa,pc,Nat.zero_le _,rfl,H3.out,H6.out,Hs.out.below HB1.out (nR _),nS Hr.out.pa HB1.out,HA.out,Alike.refl B,rfl,HB1.out⟩
 case round=>
  obtain⟨k,C,pa',pc',hk,rfl,h3,h6,hbk,hrow,hC,hal,hgt,hbw⟩:=hrel;have hGC:=gY hC;have hiC:i<C.pairs.length:=by rw[hal.len];exact hi
  have hpp:C.pairs[i]? =some C.pairs[i]:=lG hiC;have hLC:=(hGC.fine.calls i _ hpp).1;rw[hal.hours,HH.out.1] at hLC;have hcl:(C.pairs[i]).calls.length=H:=by omega
  have Hbk:=lH hbk;have Hrow:=lH hrow;have HC:=lH hC;have Hal:=lH hal;have Hgt:=lH hgt;have Hbw:=lH hbw;have H3':=lH h3;have H6':=lH h6;obtain⟨_,c0,c1,c2,c3,f0,f1,f2,f3⟩:=h3;obtain⟨_,e0,e1,e2,e3,g0,g1,g2,g3⟩:=h6;have n3:w.heap.size<=w.heap.size+1:=by omega
  by_cases hlt:k<H
  ·have hkB:(k:Int)<B.hours:=by rw[HH.out.1];omega
   obtain⟨pb,po,sa,sc,epa,p0,p1,q2,q3,p4⟩:=hbk.pairs i _ hpp;simp only at epa;subst epa;have hkc:k<(C.pairs[i]).calls.length:=by omega
   have hxk:(C.pairs[i]).calls[k]? =some (C.pairs[i]).calls[k]:=lG hkc;obtain⟨sb,so,esa,y0,y1⟩:=q3 k _ hxk;subst esa;have hx:=(hGC.fine.calls i _ hpp).2 k _ hxk;have hband:iD C i k=(C.pairs[i]).calls[k]:=by unfold iD;rw[hpp,Option.bind_some,hxk];rfl
   have Hbd:=lH hband;rw[hcl] at q2;generalize (C.pairs[i]).calls[k]=x at *;obtain⟨xa,xb⟩:=x;simp only at y0 y1 hx;have hi':(i:Int)<(B.pairs.length:Int):=by omega
   have hi0:(0 :Int)<=(i:Int):=Int.natCast_nonneg _;have hk':(k:Int)<(H:Int):=by omega
   have hk0:(0 :Int)<=(k:Int):=Int.natCast_nonneg _;have hwb:IntKind.wrap .i64 (xb+n)=xb+n:=IntWalk.i64_in _ (by omega);have hwa:IntKind.wrap .i64 (xa+n)=xa+n:=IntWalk.i64_in _ (by omega);have Hx:=lH hx;have Hpc:=lH (And.intro hiC hkc);have HGC:=lH hGC;clear p0 p1 p4 hbk hrow hC hal hgt hbw hGC q3 hxk hband hcl hLC hx hpp hkc;by_cases h5:5<xb+n
   ·have hmiss:gtr i n (iM B) B=(C,false):=by
     rw[Hgt.out,ajS (by rw[HH.out.2];exact hlt) (by rw[Hbd.out];simp[dw,nT];omega)]
    have Hmiss:=lH hmiss;clear hmiss;have hz4:=aiK H6'.out (.int .i64 B.hours) (.slice ta B.towns.length tc) (.slice la B.links.length lc) (.slice (some ⟨pb,po,none⟩) B.pairs.length pc');have hbz:=aik Hbw.out (b:=w.heap.size+1) n3 rfl (.int .i64 B.hours) (.slice ta B.towns.length tc) (.slice la B.links.length lc) (.slice (some ⟨pb,po,none⟩) B.pairs.length pc');have hbk4:=Hbk.out.put4 (h':=B.hours) (s1:=ta) (s2:=la) (s3:=some ⟨pb,po,none⟩) (p1:=B.towns.length) (p2:=B.links.length) (p3:=B.pairs.length) (q1:=tc) (q2:=lc) (q3:=pc') H6'.out;have hal4:=fun(u:World) (o:Obj)=>(bR u.heap.size u).alloc (nR _) o;have hz5:=hz4.below (hal4 _ (.cells #[.int .i64 xa,.int .i64 xb] 53)) hz4.z;have Hbz:=lH (hbz.alloc hbz.size (.cells #[.int .i64 xa,.int .i64 xb] 53));have Hbk5:=lH (hbk4.below (hal4 _ (.cells #[.int .i64 xa,.int .i64 xb] 53)) (nR _));have Hrow5:=lH (nS (jm ⟨w.heap.size+1,3,none⟩ (.slice (some ⟨pb,po,none⟩) B.pairs.length pc') (jm ⟨w.heap.size+1,2,none⟩ (.slice la B.links.length lc) (jm ⟨w.heap.size+1,1,none⟩ (.slice ta B.towns.length tc) (jm ⟨w.heap.size+1,0,none⟩ (.int .i64 B.hours) Hrow.out)))) (hal4 _ (.cells #[.int .i64 xa,.int .i64 xb] 53)));obtain⟨_,z0,z1,z2,z3,_,_,_,_⟩:=hz5;have Hz:=lH (And.intro z0 (And.intro z1 (And.intro z2 z3)));clear hz4 hbz hbk4 hal4 z0 z1 z2 z3;go_wp2;obtain⟨z0,z1,z2,z3⟩:=Hz.out;refine bodyPost_ret (v:= .tuple #[.agg #[.int .i64 B.hours,.slice ta B.towns.length tc,.slice la B.links.length lc,.slice (some ⟨pb,po,none⟩) B.pairs.length pc'],.bool false]) (by simp[results,Tryd.results46,go_sem,z0,z1,z2,z3]) rfl ?_;refine⟨⟨ta,la,some ⟨pb,po,none⟩,tc,lc,pc'⟩,C, ?_,Hbk5.out,⟨nS Hr.out.ta Hbz.out,nS Hr.out.la Hbz.out,Hrow5.out⟩,HC.out, ?_,Hbz.out⟩
    ·rw[Hmiss.out];simp only[BkV.val,Hal.out.hours,Hal.out.towns,Hal.out.links,Hal.out.len]
    ·rw[Hmiss.out];exact fun h=>by cases h
   ·have hbok:dw (nT (iD C i k) n)=true:=by rw[Hbd.out];have:=Hx.out;simp[dw,nT];omega
    have Hhit:Hid (gtr i n (iM B) B=gtr i n ((iM B).drop (k+1)) (fD C i k (xa+n,xb+n))):=lH (by
     rw[Hgt.out,ajR (by rw[HH.out.2];exact hlt) hbok,Hbd.out];rfl)
    have HC':Hid ((fD C i k (xa+n,xb+n)).alarm=0):=lH (ahq HC.out (by rw[Hbd.out] at hbok;exact hbok));have Hal':Hid (Alike B (fD C i k (xa+n,xb+n))):=lH (Hal.out.trans (ahr C i k _));have Hval:Hid (BkV.val ⟨ta,la,some ⟨pb,po,none⟩,tc,lc,pc'⟩ C=(.agg #[.int .i64 B.hours,.slice ta B.towns.length tc,.slice la B.links.length lc,.slice (some ⟨pb,po,none⟩) B.pairs.length pc'])):=lH (by simp only[BkV.val,Hal.out.hours,Hal.out.towns,Hal.out.links,Hal.out.len]);have Hkc:Hid ((k:Int)<C.hours):=lH (by rw[Hal.out.hours];exact hkB);clear hbok
    go_wp2_with fail
    have hx9:(wr.alloc (.cells #[.int .i64 xa,.int .i64 xb] 53)).cell? ⟨wr.heap.size,0,none⟩=some (.int .i64 xa)/\(wr.alloc (.cells #[.int .i64 xa,.int .i64 xb] 53)).cell? ⟨wr.heap.size,1,none⟩=some (.int .i64 xb):=⟨by go_simp,by go_simp⟩;have hwx:=(bR wr.heap.size wr).alloc (nR _) (.cells #[.int .i64 xa,.int .i64 xb] 53);have hbx:=Hbw.out.alloc Hbw.out.size (.cells #[.int .i64 xa,.int .i64 xb] 53);have h3x:=H3'.out.below hwx H3'.out.z;have h6x:=H6'.out.below hwx H6'.out.z;have hkx:=Hbk.out.below hwx (nR _);generalize wr.alloc (.cells #[.int .i64 xa,.int .i64 xb] 53)=X at *;have hW:Below X.heap.size X X.drew:=(bR _ _).drew;have HXC:Hid (∀u,Below X.heap.size X u->u.cell? ⟨w.heap.size,0,none⟩=some (.int .i64 B.hours)/\u.cell? ⟨w.heap.size,1,none⟩=some (.slice ta B.towns.length tc)/\u.cell? ⟨w.heap.size,2,none⟩=some (.slice la B.links.length lc)/\u.cell? ⟨w.heap.size,3,none⟩=some (.slice (some ⟨pb,po,none⟩) B.pairs.length pc')/\u.cell? ⟨wr.heap.size,0,none⟩=some (.int .i64 xa)/\u.cell? ⟨wr.heap.size,1,none⟩=some (.int .i64 xb)):=lH fun u hu=>⟨ajq hu h3x.c0,ajq hu h3x.c1,ajq hu h3x.c2,ajq hu h3x.c3,ajq hu hx9.1,ajq hu hx9.2⟩;refine aif 13 14 (fun u=>Below X.heap.size X u) (by kernel_rfl) ?_;refine ahN 0 (.agg #[.int .i64 B.hours,.slice ta B.towns.length tc,.slice la B.links.length lc,.slice (some ⟨pb,po,none⟩) B.pairs.length pc']) hW ?_ (hr:=fun u hu=>by obtain⟨y0,y1,y2,y3,y4,y5⟩:=HXC.out u hu;go_simp);refine ahN 1 (.int .i64 (i:Int)) hW ?_ (hr:=fun u hu=>by go_simp);refine ahN 2 (.int .i64 (k:Int)) hW ?_ (hr:=fun u hu=>by go_simp);refine ahN 3 (.pointer (some ⟨wr.heap.size,0,none⟩)) hW ?_ (hr:=fun u hu=>by go_simp);refine ahN 4 (.int .i64 xa) hW ?_ (hr:=fun u hu=>by obtain⟨y0,y1,y2,y3,y4,y5⟩:=HXC.out u hu;go_simp);refine ahN 5 (.int .i64 n) hW ?_ (hr:=fun u hu=>by go_simp);refine ahN 6 (.int .i64 (xa+n)) hW ?_ (hr:=fun u hu=>by go_simp);refine ahN 7 (.pointer (some ⟨wr.heap.size,1,none⟩)) hW ?_ (hr:=fun u hu=>by go_simp);refine ahN 8 (.int .i64 xb) hW ?_ (hr:=fun u hu=>by obtain⟨y0,y1,y2,y3,y4,y5⟩:=HXC.out u hu;go_simp);refine ahN 9 (.int .i64 n) hW ?_ (hr:=fun u hu=>by go_simp);refine ahN 10 (.int .i64 (xb+n)) hW ?_ (hr:=fun u hu=>by go_simp);simp only[Act.put,List.setIfInBounds_toArray,List.set,List.getElem_toArray,List.getElem_cons_zero,List.getElem_cons_succ];refine ahQ 11 (h:=ahW (f:=44) (args:= #[.int .i64 (xa+n),.int .i64 (xb+n)]) (w':=X.drew) (by go_simp) ((ajA _ _ _).mono ?_));rintro e u2 ⟨rfl,hb2⟩;have hu2:Below X.heap.size X u2:=hW.trans (hb2.mono hW.size);refine⟨_,rfl,fun _=>hu2, ?_⟩;simp only[Act.put,List.setIfInBounds_toArray,List.set,List.getElem_toArray,List.getElem_cons_zero,List.getElem_cons_succ];have hcall:=c43 ⟨ta,la,some ⟨pb,po,none⟩,tc,lc,pc'⟩ C i k (xa+n) (xb+n) u2 (hkx.below hu2 (nR _)) HGC.out hiC Hkc.out;rw[Hval.out] at hcall;refine ahQ 12 (h:=ahW (f:=43) (args:= #[(.agg #[.int .i64 B.hours,.slice ta B.towns.length tc,.slice la B.links.length lc,.slice (some ⟨pb,po,none⟩) B.pairs.length pc']),.int .i64 (i:Int),.int .i64 (k:Int),.agg #[.int .i64 (xa+n),.int .i64 (xb+n)]]) (w':=u2) (by go_simp) (hcall.mono ?_));rintro e u4 ⟨g,gc,rfl,hk4,hr4,hb4⟩;have hu4:Below X.heap.size X u4:=hu2.trans (hb4.mono hu2.size);refine⟨_,rfl,fun _=>hu4, ?_⟩;simp only[BkV.val,Hal.out.hours,Hal.out.towns,Hal.out.links,Hal.out.len];simp only[Act.put,List.setIfInBounds_toArray,List.set,List.getElem_toArray,List.getElem_cons_zero,List.getElem_cons_succ];have h34:=h3x.below hu4 h3x.z;have h64:=h6x.below hu4 h6x.z;have hk5:=hk4.put4 (h':=B.hours) (s1:=ta) (s2:=la) (s3:=some ⟨g,0,none⟩) (p1:=B.towns.length) (p2:=B.links.length) (p3:=B.pairs.length) (q1:=tc) (q2:=lc) (q3:=gc) h34;have h35:=aiK h34 (.int .i64 B.hours) (.slice ta B.towns.length tc) (.slice la B.links.length lc) (.slice (some ⟨g,0,none⟩) B.pairs.length gc);have hne:w.heap.size≠w.heap.size+1:=by omega
    have h65:=(((h64.far (k:=0) hne (.int .i64 B.hours)).far (k:=1) hne (.slice ta B.towns.length tc)).far (k:=2) hne (.slice la B.links.length lc)).far (k:=3) hne (.slice (some ⟨g,0,none⟩) B.pairs.length gc);have hbw5:=aik (hbx.trans (hu4.mono hbx.size)) (b:=w.heap.size) (nR _) rfl (.int .i64 B.hours) (.slice ta B.towns.length tc) (.slice la B.links.length lc) (.slice (some ⟨g,0,none⟩) B.pairs.length gc);have hrw5:=jm ⟨w.heap.size,3,none⟩ (.slice (some ⟨g,0,none⟩) B.pairs.length gc) (jm ⟨w.heap.size,2,none⟩ (.slice la B.links.length lc) (jm ⟨w.heap.size,1,none⟩ (.slice ta B.towns.length tc) (jm ⟨w.heap.size,0,none⟩ (.int .i64 B.hours) hr4)));obtain⟨_,y0,y1,y2,y3,z0,z1,z2,z3⟩:=h34;refine ahQ 13 (h:=ah1 (w':=((((u4.setCell ⟨w.heap.size,0,none⟩ (.int .i64 B.hours)).setCell ⟨w.heap.size,1,none⟩ (.slice ta B.towns.length tc)).setCell ⟨w.heap.size,2,none⟩ (.slice la B.links.length lc)).setCell ⟨w.heap.size,3,none⟩ (.slice (some ⟨g,0,none⟩) B.pairs.length gc))) (by go_simp) ⟨fun h=>absurd rfl h, ?_⟩);refine ahZ ?_;simp only[Act.put,List.getElem_toArray,List.getElem_cons_zero,List.getElem_cons_succ];generalize ((((u4.setCell ⟨w.heap.size,0,none⟩ (.int .i64 B.hours)).setCell ⟨w.heap.size,1,none⟩ (.slice ta B.towns.length tc)).setCell ⟨w.heap.size,2,none⟩ (.slice la B.links.length lc)).setCell ⟨w.heap.size,3,none⟩ (.slice (some ⟨g,0,none⟩) B.pairs.length gc))=u5 at *;clear y0 y1 y2 y3 z0 z1 z2 z3 c0 c1 c2 c3 f0 f1 f2 f3 e0 e1 e2 e3 g0 g1 g2 g3 h64 hk4 hr4 hb4 hu4 hcall hu2 hb2 hW hx9 hwx hbx h3x h6x hkx;go_wp2;go_roundw
    case rel=>exact⟨k+1,by omega,by go_num,fD C i k (xa+n,xb+n),some ⟨g,0,none⟩,gc,h35,hk5,hrw5,HC'.out,Hal'.out,Hhit.out⟩
    case measure=>simp[intOf];omega
  ·have hkB: ¬(k:Int)<B.hours:=by rw[HH.out.1];omega
   have hend:gtr i n (iM B) B=(C,true):=by
    rw[Hgt.out,List.drop_of_length_le (by rw[ajB,HH.out.2];omega)];rfl
   have Hend:=lH hend;clear hbk hrow hC hal hgt hbw hGC hpp hend;go_wp2;refine bodyPost_ret (v:= .tuple #[.agg #[.int .i64 B.hours,.slice ta B.towns.length tc,.slice la B.links.length lc,.slice pa' B.pairs.length pc'],.bool true]) (by simp[results,Tryd.results46,go_sem,e0,e1,e2,e3]) rfl ?_;have hbz:=aik Hbw.out (b:=w.heap.size+1) n3 rfl (.int .i64 B.hours) (.slice ta B.towns.length tc) (.slice la B.links.length lc) (.slice pa' B.pairs.length pc');refine⟨⟨ta,la,pa',tc,lc,pc'⟩,C, ?_, ?_, ?_,HC.out, ?_,hbz⟩
   ·rw[Hend.out];simp only[BkV.val,Hal.out.hours,Hal.out.towns,Hal.out.links,Hal.out.len]
   ·exact Hbk.out.put4 H6'.out
   ·exact⟨nS Hr.out.ta hbz,nS Hr.out.la hbz,jm _ _ (jm _ _ (jm _ _ (jm _ _ Hrow.out)))⟩
   ·rw[Hend.out];exact fun _=>rfl
section
variable {f:FuncId} {ops:Array Oper} {kk:List Item} {R:Value->World->Prop}
theorem acD {w u x:World} (h:Kept w.heap.size w u) (k:Kept u.heap.size u x):Kept w.heap.size w x:=h.trans (k.mono h.size)
def YG (ops:Array Oper) (o:Oper) (v:Value) (a:Act) (w:World):Prop:=
 (Region.wanted o (yielded ops a.tmps)=true/\ ∀u,Kept w.heap.size w u->(execOp a.eval o).run tP u= .ok (.value v) u)\/(Region.wanted o (yielded ops a.tmps)=false/\v=ud)
theorem YG.kept {o:Oper} {v:Value} {a:Act} {w w':World} (h:YG ops o v a w) (hk:Kept w.heap.size w w'):YG ops o v a w':=by
 rcases h with ⟨h1,h2⟩ |h
 ·exact .inl ⟨h1,fun u hu=>h2 u (acD hk hu)⟩
 ·exact .inr h
def acv (K:Value->World->Prop) (w:World) (m:Sem Next):Prop:=
 (∃v,(∀τ,m.run tP (w.tp τ 0 noJ)= .ok (.value v) (w.tp τ 0 noJ))/\K v w)\/
 (∃S:Value->World->Prop,(∀τ,∃v w',m.run tP (w.tp τ 0 noJ)= .ok (.value v) w'/\S v w')/\ ∀v w',S v w'->Kept w.heap.size w w'/\K v w')\/
 (∃g args R1,(∀u,m.run tP u= .ok (.enter g args) u)/\iK tP g args w R1/\ ∀v w',R1 v w'->Kept w.heap.size w w'/\K v w')
theorem acv.mono {w:World} {m:Sem Next} {K K':Value->World->Prop} (h: ∀v w',Kept w.heap.size w w'->K v w'->K' v w') (hh:acv K w m):acv K' w m:=by
 rcases hh with ⟨v,h1,h2⟩ |⟨S,h1,h2⟩ |⟨g,args,R1,h1,h2,h3⟩
 ·exact .inl ⟨v,h1,h v w (Kept.refl _ _) h2⟩
 ·exact .inr (.inl ⟨S,h1,fun v w' hv=>⟨(h2 v w' hv).1,h _ _ (h2 v w' hv).1 (h2 v w' hv).2⟩⟩)
 ·exact .inr (.inr ⟨g,args,R1,h1,h2,fun v w' hv=>⟨(h3 v w' hv).1,h _ _ (h3 v w' hv).1 (h3 v w' hv).2⟩⟩)
def OpG (ops:Array Oper) (i:Nat) (K:Act->World->Prop) (a:Act) (w:World):Prop:=
 match ops[i]? with
 |none=>False
 |some o=>if Region.wanted o (yielded ops a.tmps) then acv (fun v w'=>K (a.put o.dst v) w') w (execOp a.eval o) else K (a.put o.dst ud) w
theorem OpG.mono {i:Nat} {a:Act} {w:World} {K K':Act->World->Prop} (h: ∀a w,K a w->K' a w) (hh:OpG ops i K a w):OpG ops i K' a w:=by
 unfold OpG at *
 split
 ·simp_all
 ·rename_i o ho;simp only[ho] at hh
  split
  ·rename_i hw;simp only[hw,if_true] at hh;exact hh.mono fun _ _ _=>h _ _
  ·rename_i hw;simp only[hw] at hh;exact h _ _ hh
theorem acE {i:Nat} {rest:List Nat} {a:Act} {w:World} (h:OpG ops i (fun a' w'=>GL tP f (.inRegion ops rest::kk) R a' w') a w):GL tP f (.inRegion ops (i::rest)::kk) R a w:=by
 unfold OpG at h
 split at h
 ·exact h.elim
 ·rename_i o ho
  split at h
  ·rename_i hw
   rcases h with ⟨v,h1,h2⟩ |⟨S,h1,h2⟩ |⟨g,args,R1,h1,h2,h3⟩
   ·refine LQ good (fun v' u=>v'=v/\ ∃τ,u=w.tp τ 0 noJ) ho hw (fun τ=>⟨v,_,h1 τ,rfl,τ,rfl⟩) fun v' u ⟨e,τ,e2⟩=> ?_;subst e e2;exact qL (τ:=w.tape) (d:=w.drawn) (by rw[dS,dh];exact h2)
   ·exact LQ good S ho hw h1 fun v w' hv=>(h2 v w' hv).2
   ·exact qM good ho hw h1 h2 fun v w' hv=>(h3 v w' hv).2
  ·rename_i hw;exact Bf good ho (by simpa using hw) h
theorem YG.opG {i:Nat} {o:Oper} {v:Value} {a:Act} {w:World} {K:Act->World->Prop} (hi:ops[i]? =some o) (hy:YG ops o v a w) (hK:K (a.put o.dst v) w):OpG ops i K a w:=by
 unfold OpG;simp only[hi]
 rcases hy with ⟨hw,hv⟩ |⟨hw,rfl⟩
 ·simp only[hw,if_true];exact .inl ⟨v,fun τ=>hv _ jD,hK⟩
 ·simp only[hw,Bool.false_eq_true,if_false];exact hK
theorem acF {j:Nat} {oi oj:Oper} {v:Value} (hj:ops[j]? =some oj) (hap:oi.apart ops oj=true) (hsi: ∀cs b,oi.op≠ .select cs b) (hsj: ∀cs b,oj.op≠ .select cs b) {K:Act->World->Prop} {a:Act} {w:World}
  (hy:YG ops oi v a w) (h:OpG ops j K (a.put oi.dst v) w):OpG ops j (fun a' w'=>YG ops oi v a' w'/\K (a'.put oi.dst v) w') a w:=by
 obtain⟨h1,h2,h3⟩:=Oper.apart_spec hap;have keep: ∀(u:Value) (w':World),Kept w.heap.size w w'->YG ops oi v (a.put oj.dst u) w':=fun u w' hk=>by
  refine YG.kept (w:=w) ?_ hk;unfold YG at hy ⊢;rw[wanted_put oi a oj.dst u h3,execOp_put oi hsi a oj.dst u h3];exact hy
 unfold OpG at *;simp only[hj] at *;rw[wanted_put oj a oi.dst v h1] at h
 split
 ·rename_i hw;simp only[hw,if_true] at h;rw[execOp_put oj hsj a oi.dst v h1] at h;refine h.mono fun u w' hk hh=>⟨keep u w' hk, ?_⟩;rw[<-Act.put_comm a v u h2];exact hh
 ·rename_i hw;simp only[hw] at h;refine⟨keep _ _ (Kept.refl _ _), ?_⟩;rw[<-Act.put_comm a v ud h2];exact h
def GA (f:FuncId) (ops:Array Oper) (kk:List Item) (R:Value->World->Prop):Nat->Array Bool->Act->World->Prop
 | 0,listed,a,w=>Region.ready .any ops listed= []/\GL tP f kk R a w
 |n+1,listed,a,w=>(Region.ready .any ops listed= []->GL tP f kk R a w)/\ ∀i∈Region.ready .any ops listed,OpG ops i (GA f ops kk R n (listed.setIfInBounds i true)) a w
theorem acw: ∀(n t:Nat) (listed:Array Bool) (a:Act) (w:World),GA f ops kk R n listed a w->GL tP f (.inRegion ops (Region.linearise.go .any ops n t listed [])::kk) R a w
 | 0,t,listed,a,w,h=>by
  simp only[Region.linearise.go,List.reverse_nil];exact lY good h.2
 |n+1,t,listed,a,w,h=>by
  obtain⟨h0,h1⟩:=h;simp only[Region.linearise.go]
  change GL tP f (.inRegion ops (match (Region.ready .any ops listed)[t % (Region.ready .any ops listed).length]? with
   |some i=>Region.linearise.go .any ops n (t / (Region.ready .any ops listed).length) (listed.setIfInBounds i true) [i]
   |none=> [].reverse)::kk) R a w
  cases hi:(Region.ready .any ops listed)[t % (Region.ready .any ops listed).length]? with
  |none=>
   have hnil:Region.ready .any ops listed= []:=by
    cases hr:Region.ready .any ops listed with
    |nil=>rfl
    |cons x xs=>
     rw[hr] at hi;have hlt:t % (x::xs).length<(x::xs).length:=Nat.mod_lt _ (by simp);simp at hi;simp at hlt;omega
   exact lY good (h0 hnil)
  |some i=>
   simp only[];rw[linearise_go_acc,List.reverse_singleton,List.singleton_append];exact acE ((h1 i (List.mem_of_getElem? hi)).mono fun a' w' x=>acw n _ _ a' w' x)
theorem acG {i:Nat} {oi:Oper} {v:Value} (hi:ops[i]? =some oi) (hsel: ∀(j:Nat) (o:Oper) cs b,ops[j]? =some o->o.op≠ .select cs b):
    ∀(n:Nat) (listed:Array Bool) (a:Act) (w:World),
      (∀j oj,ops[j]? =some oj->j≠i->listed.getD j true=false->(∀e∈oj.after,Region.binds .any e=true->e.on≠i)->oi.apart ops oj=true)->
      i∈Region.ready .any ops listed->YG ops oi v a w->GA f ops kk R n (listed.setIfInBounds i true) (a.put oi.dst v) w->GA f ops kk R (n+1) listed a w:=by
  intro n
  induction n with
  |zero=>
    intro listed a w _ hr hy H;refine⟨fun h=>(by rw[h] at hr;cases hr),fun j hj=> ?_⟩;by_cases hji:j=i
    · subst hji;exact hy.opG hi H
    · have:=ready_mono hj hji
      rw[H.1] at this
      cases this
  |succ n ih=>
    intro listed a w hfree hr hy H;refine⟨fun h=>(by rw[h] at hr;cases hr),fun j hj=> ?_⟩;by_cases hji:j=i
    · subst hji;exact hy.opG hi H
    · have h1:=H.2 j (ready_mono hj hji)
      obtain⟨hjun,oj,hoj,hall⟩:=mem_ready.1 hj;have hnot: ∀e∈oj.after,Region.binds .any e=true->e.on≠i:=fun e he hb heq=>by
        have h1:=hall e he hb;have h0:=(mem_ready.1 hr).1;rw[heq] at h1
        rcases Nat.lt_or_ge i listed.size with h' |h'
        · simp[h'] at h0 h1;rw[h0] at h1;cases h1
        · simp[Array.getElem?_eq_none h'] at h1
      have h2:=acF hoj (hfree j oj hoj hji hjun hnot) (fun cs b=>hsel i oi cs b hi) (fun cs b=>hsel j oj cs b hoj) hy h1;have hfree': ∀k ok,ops[k]? =some ok->k≠i->(listed.setIfInBounds j true).getD k true=false->
          (∀e∈ok.after,Region.binds .any e=true->e.on≠i)->oi.apart ops ok=true:=fun k ok hk hki hun hno=>by
        refine hfree k ok hk hki ?_ hno;by_cases hjk:j=k
        · subst hjk;exact hjun
        · rw[getD_set_ne true hjk] at hun;exact hun
      refine h2.mono fun a' w' h3=>ih (listed.setIfInBounds j true) a' w' hfree' (ready_mono hr (Ne.symm hji)) h3.1 ?_;rw[Array.setIfInBounds_comm _ _ hji];exact h3.2
theorem ac3 (m:Nat) {id:Nat} {a:Act} {w:World} (h:GA f ops kk R m (Array.replicate m false) a w) (hm:ops.size=m:=by rfl):GL tP f (.code (.region id ops true)::kk) R a w:=by
 subst hm;refine Eo good (fun it b u=> ∃t,it= .inRegion ops (Region.linearise .any ops t)::kk/\b=a/\ ∃τ d,u=w.tp τ d noJ) (fun τ=>⟨.inRegion ops (Region.linearise .any ops ((w.tp τ 0 noJ).tape (w.tp τ 0 noJ).drawn (.order (aN f).fn id)))::kk,a,w.tp τ 1 noJ,⟨_,rfl,rfl,τ,1,rfl⟩,fun cc=> .one ?_⟩) ?_
 ·have:=step_region_draw (P:=tP) (b:=aN f) (a:=a) (k:=kk) (cs:=cc) (w:=w.tp τ 0 noJ) (ops:=ops) (id:=id);rw[this];simp only[Region.schedule,show tP.follows .mixedOrders=true by kernel_rfl,Bool.true_or,if_true];rfl
 ·rintro it b u ⟨t,rfl,rfl,τ,d,rfl⟩;exact qL (τ:=w.tape) (d:=w.drawn) (by rw[dS,dh];exact acw _ _ _ _ _ h)
end
section
variable {f:FuncId} {N n d s t:Nat} {a:Act} {w:World} {l:List (Nat×Value)} {ops:Array Oper} {listed:Array Bool} {i:Nat} {kk:List Item} {R:Value->World->Prop} {o:Oper}
theorem acy {v:Value} (ho:ops[i]? =some o) (hsel:Region.noSelect ops=true) (hf:Region.free .any ops listed i=true) (hc:(Region.ready .any ops listed).contains i=true) (hy:YG ops o v a w) (h:GA f ops kk R n (listed.setIfInBounds i true) (a.put o.dst v) w):GA f ops kk R (n+1) listed a w:=
 acG ho (Region.noSelect_spec hsel) n listed a w (Region.free_spec ho hf) (by simpa using hc) hy h
theorem acr {v:Value} (hS:Sl a N l) (ho:ops[i]? =some o) (hw:Region.wanted o (yielded ops a.tmps)=true) (hdst:o.dst=some d) (hd:d<N) (hn:(l.map (·.1)).contains d=false) (hsel:Region.noSelect ops=true) (hf:Region.free .any ops listed i=true) (hc:(Region.ready .any ops listed).contains i=true)
  (hr: ∀u,Kept w.heap.size w u->(execOp a.eval o).run tP u= .ok (.value v) u) (h: ∀a',Sl a' N ((d,v)::l)->GA f ops kk R n (listed.setIfInBounds i true) a' w):GA f ops kk R (n+1) listed a w:=
 acy ho hsel hf hc (.inl ⟨hw,hr⟩) (h _ (by have:=hS.put hd hn (v:=v);rw[<-hdst] at this;exact this))
theorem acH (hr:Region.ready .any ops listed= [i]) (h:OpG ops i (GA f ops kk R n (listed.setIfInBounds i true)) a w):GA f ops kk R (n+1) listed a w:=
 ⟨fun h0=>(by rw[hr] at h0;cases h0),fun j hj=>by rw[hr,List.mem_singleton] at hj;subst hj;exact h⟩
theorem ac4 (i:Nat) {g:FuncId} {args:Array Value} {R1:Value->World->Prop} (hcall:iK tP g args w fun v w'=>R1 v w'/\Kept w.heap.size w w') (hS:Sl a N l) (k: ∀a' v w',R1 v w'/\Kept w.heap.size w w'->Sl a' N ((d,v)::l)->GA f ops kk R n (listed.setIfInBounds i true) a' w')
  (ho:ops[i]? =some o:=by rfl) (hw:Region.wanted o (yielded ops a.tmps)=true:=by rfl) (hdst:o.dst=some d:=by rfl) (hd:d<N:=by decide) (hn:(l.map (·.1)).contains d=false:=by rfl) (hc:Region.ready .any ops listed= [i]:=by kernel_rfl)
  (hr: ∀u,(execOp a.eval o).run tP u= .ok (.enter g args) u:=by intro u;have h:=(‹Sl _ _ _›).2.2;simp only[SlA] at h;simp[go_sem,h]):GA f ops kk R (n+1) listed a w:=by
 refine acH hc ?_;unfold OpG;simp only[ho,hw,if_true];refine .inr (.inr ⟨g,args,_,hr,hcall,fun v w' hv=>⟨hv.2,k _ v w' hv ?_⟩⟩);have:=hS.put hd hn (v:=v);rw[<-hdst] at this;exact this
theorem ac5 (h:GL tP f kk R a w) (hr:Region.ready .any ops listed= []:=by kernel_rfl):GA f ops kk R 0 listed a w:=⟨hr,h⟩
theorem ac7 (i:Nat) (v:Value) (hS:Sl a N l) (h: ∀a',Sl a' N ((d,v)::l)->GA f ops kk R n (listed.setIfInBounds i true) a' w)
  (ho:ops[i]? =some o:=by rfl) (hw:Region.wanted o (yielded ops a.tmps)=true:=by rfl) (hdst:o.dst=some d:=by rfl) (hd:d<N:=by decide) (hn:(l.map (·.1)).contains d=false:=by rfl) (hsel:Region.noSelect ops=true:=by kernel_rfl) (hf:Region.free .any ops listed i=true:=by kernel_rfl) (hc:(Region.ready .any ops listed).contains i=true:=by kernel_rfl)
  (hr: ∀u,(execOp a.eval o).run tP u= .ok (.value v) u:=by intro u;have h:=(‹Sl _ _ _›).2.2;simp only[SlA] at h;simp[go_sem,h]):
  GA f ops kk R (n+1) listed a w:=acr hS ho hw hdst hd hn hsel hf hc (fun u _=>hr u) h
theorem ac8 (i:Nat) {b1:Nat} {V:BkV} {B:Bk} (hS:Sl a N l) (hB:dL w b1 V B) (h: ∀a',Sl a' N ((d,V.val B)::l)->GA f ops kk R n (listed.setIfInBounds i true) a' w)
  (ho:ops[i]? =some o:=by rfl) (hw:Region.wanted o (yielded ops a.tmps)=true:=by rfl) (hdst:o.dst=some d:=by rfl) (hd:d<N:=by decide) (hn:(l.map (·.1)).contains d=false:=by rfl) (hsel:Region.noSelect ops=true:=by kernel_rfl) (hf:Region.free .any ops listed i=true:=by kernel_rfl) (hc:(Region.ready .any ops listed).contains i=true:=by kernel_rfl) (hp:o.op= .load 26 (.tmp s):=by rfl) (hs:a.tmps[s]?.getD ud= .pointer (some ⟨b1,0,none⟩):=by have h:=(‹Sl _ _ _›).2.2;simp only[SlA] at h;simp only[h]):GA f ops kk R (n+1) listed a w:=acr hS ho hw hdst hd hn hsel hf hc (fun u hk=>by
   have⟨c0,c1,c2,c3,_,_,_⟩:=hB.kept hk;obtain⟨dd,oo,ty,po,af,gu⟩:=o;simp only at hp;subst hp;go_simp) h
theorem ada (i:Nat) {b k:Nat} {x:Int} (hS:Sl a N l) (hc0:w.cell? ⟨b,k,none⟩=some (.int .i64 x)) (h: ∀a',Sl a' N ((d,.int .i64 x)::l)->GA f ops kk R n (listed.setIfInBounds i true) a' w)
  (ho:ops[i]? =some o:=by rfl) (hw:Region.wanted o (yielded ops a.tmps)=true:=by rfl) (hdst:o.dst=some d:=by rfl) (hd:d<N:=by decide) (hn:(l.map (·.1)).contains d=false:=by rfl) (hsel:Region.noSelect ops=true:=by kernel_rfl) (hf:Region.free .any ops listed i=true:=by kernel_rfl) (hc:(Region.ready .any ops listed).contains i=true:=by kernel_rfl) (hp:o.op= .load 3 (.tmp s):=by rfl) (hs:a.tmps[s]?.getD ud= .pointer (some ⟨b,k,none⟩):=by have h:=(‹Sl _ _ _›).2.2;simp only[SlA] at h;simp only[h]):GA f ops kk R (n+1) listed a w:=acr hS ho hw hdst hd hn hsel hf hc (fun u hk=>by
   have hc1:=dV hk (nR _) hc0;obtain⟨dd,oo,ty,po,af,gu⟩:=o;simp only at hp;subst hp;go_simp) h
theorem adb (i:Nat) {b1:Nat} {V:BkV} {B:Bk} (hS:Sl a N l) (hB:dL w b1 V B) (h: ∀a',Sl a' N ((d,.pointer (some ⟨b1,0,none⟩))::l)->GA f ops kk R n (listed.setIfInBounds i true) a' w)
  (ho:ops[i]? =some o:=by rfl) (hw:Region.wanted o (yielded ops a.tmps)=true:=by rfl) (hdst:o.dst=some d:=by rfl) (hd:d<N:=by decide) (hn:(l.map (·.1)).contains d=false:=by rfl) (hsel:Region.noSelect ops=true:=by kernel_rfl) (hf:Region.free .any ops listed i=true:=by kernel_rfl) (hc:(Region.ready .any ops listed).contains i=true:=by kernel_rfl) (hp:o.op= .fieldAddr 26 (.tmp s) 0:=by rfl) (hs:a.tmps[s]?.getD ud= .pointer (some ⟨b1,0,none⟩):=by have h:=(‹Sl _ _ _›).2.2;simp only[SlA] at h;simp only[h]):GA f ops kk R (n+1) listed a w:=acr hS ho hw hdst hd hn hsel hf hc (fun u hk=>by
   have c0:=(hB.kept hk).c0;obtain⟨dd,oo,ty,po,af,gu⟩:=o;simp only at hp;subst hp;go_simp) h
theorem adg (i:Nat) {b1:Nat} {V:BkV} {B:Bk} (hS:Sl a N l) (hB:dL w b1 V B) (h: ∀a',Sl a' N ((d,.pointer (some ⟨b1,3,none⟩))::l)->GA f ops kk R n (listed.setIfInBounds i true) a' w)
  (ho:ops[i]? =some o:=by rfl) (hw:Region.wanted o (yielded ops a.tmps)=true:=by rfl) (hdst:o.dst=some d:=by rfl) (hd:d<N:=by decide) (hn:(l.map (·.1)).contains d=false:=by rfl) (hsel:Region.noSelect ops=true:=by kernel_rfl) (hf:Region.free .any ops listed i=true:=by kernel_rfl) (hc:(Region.ready .any ops listed).contains i=true:=by kernel_rfl) (hp:o.op= .fieldAddr 26 (.tmp s) 3:=by rfl) (hs:a.tmps[s]?.getD ud= .pointer (some ⟨b1,0,none⟩):=by have h:=(‹Sl _ _ _›).2.2;simp only[SlA] at h;simp only[h]):GA f ops kk R (n+1) listed a w:=acr hS ho hw hdst hd hn hsel hf hc (fun u hk=>by
   have c0:=(hB.kept hk).c0;obtain⟨dd,oo,ty,po,af,gu⟩:=o;simp only at hp;subst hp;go_simp) h
theorem adh (i:Nat) {b1:Nat} {V:BkV} {B:Bk} (hS:Sl a N l) (hB:dL w b1 V B) (h: ∀a',Sl a' N ((d,.int .i64 B.hours)::l)->GA f ops kk R n (listed.setIfInBounds i true) a' w)
  (ho:ops[i]? =some o:=by rfl) (hw:Region.wanted o (yielded ops a.tmps)=true:=by rfl) (hdst:o.dst=some d:=by rfl) (hd:d<N:=by decide) (hn:(l.map (·.1)).contains d=false:=by rfl) (hsel:Region.noSelect ops=true:=by kernel_rfl) (hf:Region.free .any ops listed i=true:=by kernel_rfl) (hc:(Region.ready .any ops listed).contains i=true:=by kernel_rfl) (hp:o.op= .load 3 (.tmp s):=by rfl) (hs:a.tmps[s]?.getD ud= .pointer (some ⟨b1,0,none⟩):=by have h:=(‹Sl _ _ _›).2.2;simp only[SlA] at h;simp only[h]):GA f ops kk R (n+1) listed a w:=acr hS ho hw hdst hd hn hsel hf hc (fun u hk=>by
   have c0:=(hB.kept hk).c0;obtain⟨dd,oo,ty,po,af,gu⟩:=o;simp only at hp;subst hp;go_simp) h
theorem adl (i:Nat) {b1:Nat} {V:BkV} {B:Bk} (hS:Sl a N l) (hB:dL w b1 V B) (h: ∀a',Sl a' N ((d,.slice V.pa B.pairs.length V.pc)::l)->GA f ops kk R n (listed.setIfInBounds i true) a' w)
  (ho:ops[i]? =some o:=by rfl) (hw:Region.wanted o (yielded ops a.tmps)=true:=by rfl) (hdst:o.dst=some d:=by rfl) (hd:d<N:=by decide) (hn:(l.map (·.1)).contains d=false:=by rfl) (hsel:Region.noSelect ops=true:=by kernel_rfl) (hf:Region.free .any ops listed i=true:=by kernel_rfl) (hc:(Region.ready .any ops listed).contains i=true:=by kernel_rfl) (hp:o.op= .load 24 (.tmp s):=by rfl) (hs:a.tmps[s]?.getD ud= .pointer (some ⟨b1,3,none⟩):=by have h:=(‹Sl _ _ _›).2.2;simp only[SlA] at h;simp only[h]):GA f ops kk R (n+1) listed a w:=acr hS ho hw hdst hd hn hsel hf hc (fun u hk=>by
   have c0:=(hB.kept hk).c3;obtain⟨dd,oo,ty,po,af,gu⟩:=o;simp only at hp;subst hp;go_simp) h
theorem adn (i:Nat) {q:Int} (hS:Sl a N l) (hq:0<=q/\q<=255) (h: ∀a',Sl a' N ((d,.int .i64 q)::l)->GA f ops kk R n (listed.setIfInBounds i true) a' w)
  (ho:ops[i]? =some o:=by rfl) (hw:Region.wanted o (yielded ops a.tmps)=true:=by rfl) (hdst:o.dst=some d:=by rfl) (hd:d<N:=by decide) (hn:(l.map (·.1)).contains d=false:=by rfl) (hsel:Region.noSelect ops=true:=by kernel_rfl) (hf:Region.free .any ops listed i=true:=by kernel_rfl) (hc:(Region.ready .any ops listed).contains i=true:=by kernel_rfl) (hp:o.op= .convert 5 3 (.tmp s):=by rfl) (hs:a.tmps[s]?.getD ud= .int .u8 q:=by have h:=(‹Sl _ _ _›).2.2;simp only[SlA] at h;simp only[h]):GA f ops kk R (n+1) listed a w:=acr hS ho hw hdst hd hn hsel hf hc (fun u hk=>by
   have hwq:IntKind.wrap .i64 q=q:=IntWalk.i64_in _ (by omega);obtain⟨dd,oo,ty,po,af,gu⟩:=o;simp only at hp;subst hp;go_simp) h
theorem ado (i:Nat) {q:Int} {m k:Nat} (hS:Sl a N l) (hq:0<=q/\q<=65535) (hn1:1<=m) (hk0:(k:Int)=q % (m:Int)) (h: ∀a',Sl a' N ((d,.int .i64 (k:Int))::l)->GA f ops kk R n (listed.setIfInBounds i true) a' w)
  (ho:ops[i]? =some o:=by rfl) (hw:Region.wanted o (yielded ops a.tmps)=true:=by rfl) (hdst:o.dst=some d:=by rfl) (hd:d<N:=by decide) (hn:(l.map (·.1)).contains d=false:=by rfl) (hsel:Region.noSelect ops=true:=by kernel_rfl) (hf:Region.free .any ops listed i=true:=by kernel_rfl) (hc:(Region.ready .any ops listed).contains i=true:=by kernel_rfl) (hp:o.op= .binOp .rem 3 (.tmp s) (.tmp t) 3:=by rfl) (hs:a.tmps[s]?.getD ud= .int .i64 q:=by have h:=(‹Sl _ _ _›).2.2;simp only[SlA] at h;simp only[h]) (ht:a.tmps[t]?.getD ud= .int .i64 (m:Int):=by have h:=(‹Sl _ _ _›).2.2;simp only[SlA] at h;simp only[h]):GA f ops kk R (n+1) listed a w:=acr hS ho hw hdst hd hn hsel hf hc (fun u hk=>by
   have h1:((q.toNat % m:Nat):Int)=(k:Int):=by rw[Int.natCast_emod,Int.toNat_of_nonneg hq.1,hk0]
   have h2:=Nat.mod_le q.toNat m;have hkn:(k:Int)<=65535:=by omega
   have hrem:Int.tmod q (m:Int)=(k:Int):=by rw[hk0];exact Int.tmod_eq_emod_of_nonneg hq.1
   have hn0: ¬m=0:=by omega
   have hnz:((m:Int)==0)=false:=by rw[beq_eq_false_iff_ne];omega
   have hwk:IntKind.wrap .i64 (k:Int)=(k:Int):=IntWalk.i64_in _ (by omega);obtain⟨dd,oo,ty,po,af,gu⟩:=o;simp only at hp;subst hp;go_simp) h
end
theorem bI.kept {w w':World} {n:Nat} {V:BkV} {B:Bk} {O:qZ} (h:bI w n V B O) (hk:Kept w.heap.size w w'):bI w' n V B O:=by
 have c: ∀{b o:Nat} {v:Value},w.cell? ⟨b,o,none⟩=some v->w'.cell? ⟨b,o,none⟩=some v:=fun h=>dV hk (nR _) h;have hrp:bG w' V.pa:=fun a e=>by
  obtain⟨x,t,z,h0⟩:=h.rp a e;exact⟨x,t,z,(hk.block _ (Array.getElem?_eq_some_iff.1 h0).1).trans h0⟩
 refine⟨h.ta,h.la,h.pa,h.pc,hrp,h.tc,fun i t ht=>c (h.towns i t ht),fun i L hL=> ?_,fun i L k s hL hs=> ?_,fun i p hp=> ?_,fun i p k x hp hx=> ?_,fun i p hp=> ?_,h.dis,h.lo⟩
 ·obtain⟨h0,h1,sc,h2⟩:=h.links i L hL;exact⟨c h0,c h1,sc,c h2⟩
 ·exact⟨c (h.steps i L k s hL hs).1,c (h.steps i L k s hL hs).2⟩
 ·obtain⟨h0,h1,sc,h2⟩:=h.pairs i p hp;exact⟨c h0,c h1,sc,c h2⟩
 ·exact⟨c (h.calls i p k x hp hx).1,c (h.calls i p k x hp hx).2⟩
 ·have:=h.free i p hp;exact⟨⟨Nat.lt_of_lt_of_le this.1.1 hk.size,this.1.2⟩,fun j=>by rw[hk.frozen (p:=⟨_,j,none⟩) this.1.1];exact this.2 j⟩
structure afY (w:World) (b:Nat) (V:BkV) (B:Bk):Prop where
 c0:w.cell? ⟨b,0,none⟩=some (.int .i64 B.hours)
 c1:w.cell? ⟨b,1,none⟩=some (.slice V.ta B.towns.length V.tc)
 c2:w.cell? ⟨b,2,none⟩=some (.slice V.la B.links.length V.lc)
 c3:w.cell? ⟨b,3,none⟩=some (.slice V.pa B.pairs.length V.pc)
 lt:b<w.heap.size
 fr: ∀j,w.frozen? ⟨b,j,none⟩=false
theorem afY.kept {w w':World} {b:Nat} {V:BkV} {B:Bk} (h:afY w b V B) (hk:Kept w.heap.size w w'):afY w' b V B:=
 ⟨dV hk (nR _) h.c0,dV hk (nR _) h.c1,dV hk (nR _) h.c2,dV hk (nR _) h.c3,Nat.lt_of_lt_of_le h.lt hk.size,fun j=>by rw[hk.frozen (p:=⟨b,j,none⟩) h.lt];exact h.fr j⟩
section
variable {f:FuncId} {N d s t:Nat} {a:Act} {w:World} {l:List (Nat×Value)} {ops:Array Oper} {i j:Nat} {rest:List Nat} {kk:List Item} {R:Value->World->Prop} {o o2:Oper}
theorem agB (w:World) (τ:Nat->Question->Nat) (d:Nat) (x:Obj):(w.tp τ d noJ).alloc x=(w.alloc x).tp τ d noJ:=by
 unfold World.tp World.alloc;rw[vO,vO]
def afS (w:World) (b:Nat) (V:BkV) (B:Bk):World:=(((w.setCell ⟨b,0,none⟩ (.int .i64 B.hours)).setCell ⟨b,1,none⟩ (.slice V.ta B.towns.length V.tc)).setCell ⟨b,2,none⟩ (.slice V.la B.links.length V.lc)).setCell ⟨b,3,none⟩ (.slice V.pa B.pairs.length V.pc)
theorem agi (w:World) (τ:Nat->Question->Nat) (d:Nat) (b:Nat) (V:BkV) (B:Bk):afS (w.tp τ d noJ) b V B=(afS w b V B).tp τ d noJ:=by
 unfold afS;rw[Pz _ _ _ lF,Pz _ _ _ lF,Pz _ _ _ lF,Pz _ _ _ lF]
structure afU (w:World) (b:Nat):Prop where
 c:(∃v,w.cell? ⟨b,0,none⟩=some v)/\(∃v,w.cell? ⟨b,1,none⟩=some v)/\(∃v,w.cell? ⟨b,2,none⟩=some v)/\ ∃v,w.cell? ⟨b,3,none⟩=some v
 lt:b<w.heap.size
 fr: ∀j,w.frozen? ⟨b,j,none⟩=false
theorem af8 {w:World} {b:Nat} (h:afU w b) (V:BkV) (B:Bk):afY (afS w b V B) b V B:=by
 obtain⟨⟨⟨v0,c0⟩,⟨v1,c1⟩,⟨v2,c2⟩,⟨v3,c3⟩⟩,hl,hf⟩:=h;have f0:=hf 0;have f1:=hf 1;have f2:=hf 2;have f3:=hf 3;unfold afS;refine⟨by go_simp,by go_simp,by go_simp,by go_simp,by simpa using hl,fun j=> ?_⟩;rw[World.frozen?_setCell,World.frozen?_setCell,World.frozen?_setCell,World.frozen?_setCell];exact hf j
theorem af9 {n:Nat} {w w':World} {b:Nat} (h:Kept n w w') (hb:n<=b) (V:BkV) (B:Bk):Kept n w (afS w' b V B):=
 ach (ach (ach (ach h (p:=⟨b,0,none⟩) hb _) (p:=⟨b,1,none⟩) hb _) (p:=⟨b,2,none⟩) hb _) (p:=⟨b,3,none⟩) hb _
theorem agj {w:World} {b:Nat} (h:afU w b) (τ:Nat->Question->Nat) (d:Nat):afU (w.tp τ d noJ) b:=by
 obtain⟨c,hl,hf⟩:=h;exact⟨by simpa only[bV] using c,by rw[jO];exact hl,fun j=>by rw[(jD (w:=w) (τ:=τ) (d:=d)).frozen (p:=⟨b,j,none⟩) hl];exact hf j⟩
theorem agk {o:Oper} {p q b:Nat} {V:BkV} {B:Bk} {x:World} (hp2:o.op= .store 26 (.tmp p) (.tmp q)) (hd:a.tmps[p]?.getD ud= .pointer (some ⟨b,0,none⟩)) (hs:a.tmps[q]?.getD ud=V.val B) (h:afU x b):(execOp a.eval o).run tP x= .ok .skip (afS x b V B):=by
 obtain⟨⟨⟨v0,c0⟩,⟨v1,c1⟩,⟨v2,c2⟩,⟨v3,c3⟩⟩,hl,hf⟩:=h;have f0:=hf 0;have f1:=hf 1;have f2:=hf 2;have f3:=hf 3;obtain⟨dd,oo,ty,po,af,gu⟩:=o;simp only at hp2;subst hp2;unfold BkV.val at hs;unfold afS;go_simp
theorem ag3 (S:World->Prop) (ho:ops[i]? =some o) (hw:Region.wanted o (yielded ops a.tmps)=true) (hr: ∀τ,∃w',(execOp a.eval o).run tP (w.tp τ 0 noJ)= .ok .skip w'/\S w')
  (h: ∀w',S w'->GL tP f (.inRegion ops rest::kk) R (a.put o.dst ud) w'):GL tP f (.inRegion ops (i::rest)::kk) R a w:=by
 refine Eo good (fun it b u=>it= .inRegion ops rest::kk/\b=a.put o.dst ud/\S u) (fun τ=> ?_) fun it b u ⟨e1,e2,hs⟩=>by subst e1 e2;exact h u hs
 obtain⟨w',hr',hs⟩:=hr τ;refine⟨_,_,w',⟨rfl,rfl,hs⟩,fun cc=> .one (step_lone_go ?_)⟩
 change (stepG tP true (G ((aN f).at a (.inRegion ops (i::rest)::kk)) cc) (w.tp τ 0 noJ)).bare=_
 rw[stepG_none ho hw (by intro e;cases e) hr'];rfl
theorem aga {it:List Item} {τ:Nat->Question->Nat} {d:Nat} (h:GL tP f it R a w):GL tP f it R a (w.tp τ d noJ):=
 qL (τ:=w.tape) (d:=w.drawn) (by rw[dS,dh];exact h)
theorem agb {V:BkV} {B:Bk} (hS:Sl a N l) (h: ∀a' b w',w.heap.size<=b->Kept w.heap.size w w'->afY w' b V B->Sl a' N ((d,.pointer (some ⟨b,0,none⟩))::l)->GL tP f (.inRegion ops rest::kk) R a' w') (hs:a.tmps[s]?.getD ud=V.val B)
  (ho:ops[i]? =some o:=by rfl) (ho2:ops[j]? =some o2:=by rfl) (hg:o.guard=none:=by rfl) (hg2:o2.guard=none:=by rfl) (hdst:o.dst=some d:=by rfl) (hdst2:o2.dst=none:=by rfl) (hd:d<N:=by decide) (hn:(l.map (·.1)).contains d=false:=by rfl) (hp:o.op= .alloc 26:=by rfl) (hp2:o2.op= .store 26 (.tmp d) (.tmp s):=by rfl) (hne:s≠d:=by decide):
  GL tP f (.inRegion ops (i::j::rest)::kk) R a w:=by
 have P:=kP a (d:=d) (.pointer (some ⟨w.heap.size,0,none⟩)) (by rw[hS.1];exact hd);refine LQ good (fun v u=>v= .pointer (some ⟨w.heap.size,0,none⟩)/\ ∃τ,u=(w.alloc (.cells #[.int .i64 0,.slice none 0 0,.slice none 0 0,.slice none 0 0] 26)).tp τ 0 noJ) ho (by unfold Region.wanted;rw[hg]) (fun τ=>⟨.pointer (some ⟨w.heap.size,0,none⟩),(w.tp τ 0 noJ).alloc (.cells #[.int .i64 0,.slice none 0 0,.slice none 0 0,.slice none 0 0] 26), ?_,rfl,τ,agB _ _ _ _⟩) ?_
 ·have hz:(w.tp τ 0 noJ).heap.size=w.heap.size:=jO;obtain⟨dd,oo,ty,po,af,gu⟩:=o;simp only at hp;subst hp;rw[<-hz];generalize w.tp τ 0 noJ=w1;go_simp
 rintro v u ⟨rfl,τ,rfl⟩;refine aga ?_;rw[hdst];have hS2:=hS.put hd hn (v:= .pointer (some ⟨w.heap.size,0,none⟩));have hs2:(a.put (some d) (.pointer (some ⟨w.heap.size,0,none⟩))).tmps[s]?.getD ud=V.val B:=(P.other s hne).trans hs;have hd2:(a.put (some d) (.pointer (some ⟨w.heap.size,0,none⟩))).tmps[d]?.getD ud= .pointer (some ⟨w.heap.size,0,none⟩):=P.same;have hx:afU (w.alloc (.cells #[.int .i64 0,.slice none 0 0,.slice none 0 0,.slice none 0 0] 26)) w.heap.size:=⟨⟨⟨_,by go_simp;rfl⟩,⟨_,by go_simp;rfl⟩,⟨_,by go_simp;rfl⟩,⟨_,by go_simp;rfl⟩⟩,by simp,fun j=>by go_simp⟩;have hk:Kept w.heap.size w (w.alloc (.cells #[.int .i64 0,.slice none 0 0,.slice none 0 0,.slice none 0 0] 26)):=Kept.of_below ((bR _ _).alloc (nR _) _);generalize a.put (some d) (.pointer (some ⟨w.heap.size,0,none⟩))=a2 at *;generalize w.alloc (.cells #[.int .i64 0,.slice none 0 0,.slice none 0 0,.slice none 0 0] 26)=W at *;refine ag3 (fun u=> ∃τ,u=(afS W w.heap.size V B).tp τ 0 noJ) ho2 (by unfold Region.wanted;rw[hg2]) (fun τ=>⟨_,agk hp2 hd2 hs2 (agj hx τ 0),τ,agi _ _ _ _ _ _⟩) ?_;rintro u ⟨τ,rfl⟩;refine aga ?_;rw[hdst2];exact h a2 w.heap.size _ (nR _) (af9 hk (nR _) V B) (af8 hx V B) hS2
end
section
variable {u:World} {b1:Nat} {V:BkV} {B:Bk} {xs:List Int} {xa:Option Addr} {xc n:Nat} {p:Int}
end
section
variable {u:World} {b1:Nat} {V:BkV} {B:Bk} {xs cs:List Int} {xa ca:Option Addr} {xc cc:Nat}
end
section
variable {f:FuncId} {N n d s t:Nat} {a:Act} {w:World} {l:List (Nat×Value)} {ops:Array Oper} {listed:Array Bool} {i:Nat} {rest:List Nat} {kk:List Item} {R:Value->World->Prop} {o:Oper}
end
end Go.Proofs.YtaikibfkggglgaaDoor
