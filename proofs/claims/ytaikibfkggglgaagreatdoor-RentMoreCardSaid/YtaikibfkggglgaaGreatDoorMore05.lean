/- A part of the proof of a law; no conditions of its own. -/
import Derived.Test.YtaikibfkggglgaaGreatDoorMore04
open Go.RowKit renaming Below→bX
open Go renaming World→wD
open Go.IntKind renaming i64→qi
open Go.Value renaming int→iN, slice→sL, pointer→pN
open Go.Ending renaming returned→rT
open Go.Obj renaming cells→cL
set_option maxRecDepth 100000
open Nat renaming le_refl→nR
open Go.Lib renaming hid→lH
open Go.RowKit.Below renaming refl→bR
open Go.Proofs.Tryz renaming prog→tP
open List renaming getElem?_eq_getElem→lG
open List renaming getElem?_eq_some_iff→lS
open Go.World renaming block_lt_of_cell?→wBk
open Go.World renaming cell?_setCell_other→wO
open Go.World renaming cell?_setCell_far→wF
set_option maxHeartbeats 4000000
namespace Go.Proofs.YtaikibfkggglgaaGreatDoor
open Go.RowKit Go.Rent Go.Tp Go.Conc
theorem ajM {w u:wD} {V:BkV} {B:Bk} (hs:aB w V B) {b o g gc cb cc i h:Nat} {x:Int×Int} (hpa:V.pa=some ⟨b,o,none⟩) (hi:i<B.pairs.length) (hb:bX w.heap.size w u)
  (h0: ∀j,j<B.pairs.length->u.cell? ⟨g,j*3,none⟩=some (iN qi (B.pone j))/\u.cell? ⟨g,j*3+1,none⟩=some (iN qi (B.ptwo j))/\(j≠i->u.cell? ⟨g,j*3+2,none⟩=w.cell? ⟨b,o+j*3+2,none⟩))
  (h1:u.cell? ⟨g,i*3+2,none⟩=some (sL (some ⟨cb,0,none⟩) (B.pairs[i]).calls.length cc))
  (h2: ∀(k:Nat) (y:Int×Int),(B.pairs[i]).calls[k]? =some y->u.cell? ⟨cb,k*2,none⟩=some (iN qi (if k=h then x else y).1)/\u.cell? ⟨cb,k*2+1,none⟩=some (iN qi (if k=h then x else y).2)):
  aB u {V with pa:=some ⟨g,0,none⟩,pc:=gc} (fD B i h x):=by
 have hs2:=hs.below hb (nR _);refine⟨hs2.towns,hs2.links,fun j q hq=> ?_,hs.nt,hs.nl,by rw[ag9];exact hs.np,hs.tc⟩;obtain⟨p,hp,e1,e2,e3,e4⟩:=mO hq;have hj:j<B.pairs.length:=(lS.1 hp).1;have hpj:B.pairs[j]=p:=(lS.1 hp).2;obtain⟨k0,k1,k2⟩:=h0 j hj;have hpo:B.pone j=q.one:=by unfold Bk.pone;rw[hp,e1];rfl
 have hpt:B.ptwo j=q.two:=by unfold Bk.ptwo;rw[hp,e2];rfl
 rw[hpo] at k0;rw[hpt] at k1;obtain⟨b2,o2,sa2,sc2,e5,_,_,h5,h6,h7⟩:=hs.pairs j p hp;rw[hpa] at e5
 cases e5
 by_cases c:j=i
 ·subst c;rw[hpj] at h1 h2;refine⟨g,0,some ⟨cb,0,none⟩,cc,rfl,by rw[Nat.zero_add];exact k0,by rw[Nat.zero_add];exact k1,by rw[Nat.zero_add,e3];exact h1,fun k y hy=> ?_,by rw[e3];exact h7⟩;rw[e4 k] at hy;by_cases c2:k=h/\k<p.calls.length
  ·rw[if_pos ⟨rfl,c2⟩] at hy
   cases hy
   have h8:=h2 k _ (lG c2.2);rw[if_pos c2.1] at h8;exact⟨cb,0,rfl,by rw[Nat.zero_add];exact h8.1,by rw[Nat.zero_add];exact h8.2⟩
  ·rw[if_neg (fun z=>c2 z.2)] at hy;have h8:=h2 k y hy;have hk:=(lS.1 hy).1;rw[if_neg (fun z=>c2 ⟨z,hk⟩)] at h8;exact⟨cb,0,rfl,by rw[Nat.zero_add];exact h8.1,by rw[Nat.zero_add];exact h8.2⟩
 ·have h9:q.calls=p.calls:=by
   apply List.ext_getElem?;intro m;rw[e4 m,if_neg (fun z=>c z.1)]
  refine⟨g,0,sa2,sc2,rfl,by rw[Nat.zero_add];exact k0,by rw[Nat.zero_add];exact k1,by rw[Nat.zero_add,k2 c,h9];exact h5,by rw[h9];exact h6.below hb (nR _),by rw[h9];exact h7⟩
theorem ajq {n:Nat} {w u:wD} {p:Addr} {v:Value} (hb:bX n w u) (h:w.cell? p=some v) (hn:w.heap.size<=n:=by exact nR _):u.cell? p=some v:=(hb.cell (Nat.lt_of_lt_of_le (wBk w _ h) hn)).trans h
theorem dW.far {w:wD} {b c k:Nat} {a0 a1 a2 a3:Value} (h:dW w b a0 a1 a2 a3) (hne:c≠b) (v:Value):dW (w.setCell ⟨c,k,none⟩ v) b a0 a1 a2 a3:=by
 obtain⟨hz,c0,c1,c2,c3,f0,f1,f2,f3⟩:=h;refine aij ?_ ?_ ?_ ?_ ?_ ?_ ?_ ?_
 all_goals first
  |rw[wF _ _ _ _ hne];assumption
  |rw[World.frozen?_setCell];assumption
theorem dW.drew {w:wD} {b:Nat} {a0 a1 a2 a3:Value} (h:dW w b a0 a1 a2 a3):dW w.drew b a0 a1 a2 a3:=⟨h.z,h.c0,h.c1,h.c2,h.c3,h.f0,h.f1,h.f2,h.f3⟩
theorem c43 (V:BkV) (B:Bk) (i h:Nat) (x1 x2:Int) (w:wD) (hs:aB w V B) (hG:Good B) (hi:i<B.pairs.length) (hh:(h:Int)<B.hours):
  Calls tP 49 #[V.val B,iN qi (i:Int),iN qi (h:Int),.agg #[iN qi x1,iN qi x2]] w fun e w'=> ∃g gc,e= rT (({V with pa:=some ⟨g,0,none⟩,pc:=gc}:BkV).val B)/\aB w' {V with pa:=some ⟨g,0,none⟩,pc:=gc} (fD B i h (x1,x2))/\bG w' (some ⟨g,0,none⟩)/\bX w.heap.size w w':=by
 obtain⟨ta,la,pa,tc,lc,pc⟩:=V;have hp0:B.pairs[i]? =some B.pairs[i]:=lG hi;obtain⟨b,o,_,_,hpa,_⟩:=hs.pairs i _ hp0;simp only at hpa;subst hpa;have hnp:=hG.fine.pairs;have hL:=(hG.fine.calls i _ hp0).1;have hh1:=hG.fine.hours;have hprs:=hs.pairs;obtain⟨vs,hrv,htr⟩:=ajN hprs;have hvl:vs.length=B.pairs.length:=by rw[hrv.len,List.length_map]
 obtain⟨sa,sc,q0,q1,q2,q3,q4⟩:=aiO hrv htr (i:=i) (x:=pr3 B.pairs[i]) (by rw[List.getElem?_map,hp0];rfl);have hcl:1<=(B.pairs[i]).calls.length:=by omega
 obtain⟨sb,so,hsa,_⟩:=q3 0 _ (lG hcl);subst hsa;simp only[pr3] at q0 q1 q2 q3 q4;obtain⟨L,hLL⟩: ∃L,(B.pairs[i]).calls.length=L:=⟨_,rfl⟩;rw[hLL] at q2 hcl hL;have hhL:h<L:=by omega
 have Hs:=lH hs;have Hrv:=lH hrv;have Htr:=lH htr;have Hvl:=lH hvl;have Hq2:=lH q2;have Hq3:=lH q3;have HL:=lH hLL;have HG:=lH hG;obtain⟨i7,hi7,hz7,hy7,hw7⟩:=info_parts Zq;obtain⟨i5,hi5,hz5,hy5,hw5⟩:=info_parts MG;have Hown:Hid (∀u:wD,u.heap.size=w.heap.size+1+1+1+1->(u.alloc (cL #[] 56)).ownsRow (w.heap.size+1+1+1+1) 56 3 (sL (some ⟨w.heap.size+1+1+1+1,0,none⟩) 0 0) 0 []):=lH fun u hu=>by
  have:=aip u (w.heap.size+1+1+1+1) 56 3 (by omega);rwa [hu] at this
 have Hnews:Hid (∀u,bX w.heap.size w u-> ∀(j:Nat) (x:Value),(tri vs)[j]? =some x->u.cell? ((⟨b,o,none⟩:Addr).add j)=some x):=lH fun u hu j x hx=>ajq hu (htr j x hx);have Hone:=lH hrv.one;have Hlen:Hid ((tri vs).length=B.pairs.length*3):=lH (by rw[ES,hvl]);have Hb63:Hid (0+B.pairs.length<=maxLen):=lH (by unfold maxLen;omega);have Hbb:Hid ((0+B.pairs.length)*40<=140737488355328):=lH (by omega);clear hs hG hp0 hprs hrv htr hvl q0 q1 q2 q3 hLL;go_enter Tryz.func49,Tryz.ntmps49
 go_wp2_with (at_builtin;refine wpList_append_own _ rfl _ _ 24 rfl (w.heap.size+1+1+1+1) 56 i7 (.agg #[iN qi 0,iN qi 0,sL none 0 0]) 3 40 Tryz.underlying24 hi7 hz7 hy7 hw7 rfl (by decide) _ _ _ rfl (Hown.out _ (by simp)) ⟨b,o,none⟩ B.pairs.length pc (tri vs) rfl Hlen.out (Hnews.out _ ((((((bR _ _).alloc (nR _) _).alloc (by simp) _).alloc (by simp;omega) _).alloc (by simp;omega) _).alloc (by simp;omega) _)) Hone.out Hb63.out Hbb.out (by simp) ?_;intro v w2 hown1 hgrow _;refine RowKit.Hid.out ?_)
 refine lH ?_;have hr4:=ahT w 26 (iN qi B.hours) (sL ta B.towns.length tc) (sL la B.links.length lc) (sL (some ⟨b,o,none⟩) B.pairs.length pc);have hb0:=(bR w.heap.size w).alloc (nR _) (cL #[iN qi B.hours,sL ta B.towns.length tc,sL la B.links.length lc,sL (some ⟨b,o,none⟩) B.pairs.length pc] 26);have hz0:(w.alloc (cL #[iN qi B.hours,sL ta B.towns.length tc,sL la B.links.length lc,sL (some ⟨b,o,none⟩) B.pairs.length pc] 26)).heap.size=w.heap.size+1:=by simp
 generalize w.alloc (cL #[iN qi B.hours,sL ta B.towns.length tc,sL la B.links.length lc,sL (some ⟨b,o,none⟩) B.pairs.length pc] 26)=W0 at *;have hb1:=hb0.alloc hb0.size (cL #[iN qi x1,iN qi x2] 43);have hs1:=(bR W0.heap.size W0).alloc (nR _) (cL #[iN qi x1,iN qi x2] 43);have hz1:(W0.alloc (cL #[iN qi x1,iN qi x2] 43)).heap.size=w.heap.size+1+1:=by simp[hz0]
 have hc0:(W0.alloc (cL #[iN qi x1,iN qi x2] 43)).cell? ⟨w.heap.size+1,0,none⟩=some (iN qi x1)/\(W0.alloc (cL #[iN qi x1,iN qi x2] 43)).cell? ⟨w.heap.size+1,1,none⟩=some (iN qi x2):=by rw[<-hz0];exact⟨by go_simp,by go_simp⟩
 generalize W0.alloc (cL #[iN qi x1,iN qi x2] 43)=W1 at *;have hr8:=ahT W1 26 (iN qi 0) (sL none 0 0) (sL none 0 0) (sL none 0 0);have hb2:=hb1.alloc hb1.size (cL #[iN qi 0,sL none 0 0,sL none 0 0,sL none 0 0] 26);have hs2:=(bR W1.heap.size W1).alloc (nR _) (cL #[iN qi 0,sL none 0 0,sL none 0 0,sL none 0 0] 26);have hz2:(W1.alloc (cL #[iN qi 0,sL none 0 0,sL none 0 0,sL none 0 0] 26)).heap.size=w.heap.size+1+1+1:=by simp[hz1]
 rw[hz1] at hr8;generalize W1.alloc (cL #[iN qi 0,sL none 0 0,sL none 0 0,sL none 0 0] 26)=W2 at *;have hr9:=ahT W2 26 (iN qi B.hours) (sL ta B.towns.length tc) (sL la B.links.length lc) (sL (some ⟨b,o,none⟩) B.pairs.length pc);have hb3:=hb2.alloc hb2.size (cL #[iN qi B.hours,sL ta B.towns.length tc,sL la B.links.length lc,sL (some ⟨b,o,none⟩) B.pairs.length pc] 26);have hs3:=(bR W2.heap.size W2).alloc (nR _) (cL #[iN qi B.hours,sL ta B.towns.length tc,sL la B.links.length lc,sL (some ⟨b,o,none⟩) B.pairs.length pc] 26);have hz3:(W2.alloc (cL #[iN qi B.hours,sL ta B.towns.length tc,sL la B.links.length lc,sL (some ⟨b,o,none⟩) B.pairs.length pc] 26)).heap.size=w.heap.size+1+1+1+1:=by simp[hz2]
 rw[hz2] at hr9;generalize W2.alloc (cL #[iN qi B.hours,sL ta B.towns.length tc,sL la B.links.length lc,sL (some ⟨b,o,none⟩) B.pairs.length pc] 26)=W3 at *;have hs4:=(bR W3.heap.size W3).alloc (nR _) (cL #[] 56);have hgr:(W3.alloc (cL #[] 56)).grownBy w2 (some (w.heap.size+1+1+1+1)):=hgrow;have hs5:=hs4.grown hgr hs4.size (fun j hj=>by cases hj;rw[hz3];exact nR _);have hwb:=hb3.trans (hs5.mono hb3.size);obtain⟨g,gc,rfl,q1,q2,q3,q4',q5,_⟩:=ru hown1 (by omega);have hrow:=(aan hown1).1;rw[Nat.zero_add,List.nil_append] at *;have hr4:=(((hr4.below hs1 (by omega)).below hs2 (by omega)).below hs3 (by omega)).below hs5 (by omega);have hr8:=(hr8.below hs3 (by omega)).below hs5 (by omega);have hr9:=hr9.below hs5 (by omega);have hc7:w2.cell? ⟨w.heap.size+1,0,none⟩=some (iN qi x1)/\w2.cell? ⟨w.heap.size+1,1,none⟩=some (iN qi x2):=
  ⟨ajq hs5 (ajq hs3 (ajq hs2 hc0.1)),ajq hs5 (ajq hs3 (ajq hs2 hc0.2))⟩
 clear hown1 hgrow hgr hs1 hs2 hs3 hs4 hs5 hb0 hb1 hb2 hc0;refine ajp (h:=ah0 (v:= pN (some ⟨w.heap.size+1+1+1,3,none⟩)) (w':=w2) (by go_simp) ?_);have hst:=hr9.c3;have hstf:=hr9.f3;refine ajp (h:=ah1 (w':=w2.setCell ⟨w.heap.size+1+1+1,3,none⟩ (sL (some ⟨g,0,none⟩) B.pairs.length gc)) (by go_simp) ?_);simp only[Act.put,List.setIfInBounds_toArray,List.set];have hgb:w.heap.size+1+1+1<g:=by omega
 have h4:=hr4.far (c:=w.heap.size+1+1+1) (k:=3) (by omega) (sL (some ⟨g,0,none⟩) B.pairs.length gc);have h8:=hr8.far (c:=w.heap.size+1+1+1) (k:=3) (by omega) (sL (some ⟨g,0,none⟩) B.pairs.length gc);have h9:dW (w2.setCell ⟨w.heap.size+1+1+1,3,none⟩ (sL (some ⟨g,0,none⟩) B.pairs.length gc)) (w.heap.size+1+1+1) (iN qi B.hours) (sL ta B.towns.length tc) (sL la B.links.length lc) (sL (some ⟨g,0,none⟩) B.pairs.length gc):=by
  obtain⟨_,c0,c1,c2,c3,f0,f1,f2,f3⟩:=hr9;refine aij ?_ ?_ ?_ (World.cell?_setCell_same _ _ _ c3) ?_ ?_ ?_ ?_<;>go_simp
 have h7:(w2.setCell ⟨w.heap.size+1+1+1,3,none⟩ (sL (some ⟨g,0,none⟩) B.pairs.length gc)).cell? ⟨w.heap.size+1,0,none⟩=some (iN qi x1)/\(w2.setCell ⟨w.heap.size+1+1+1,3,none⟩ (sL (some ⟨g,0,none⟩) B.pairs.length gc)).cell? ⟨w.heap.size+1,1,none⟩=some (iN qi x2):=by
  constructor
  ·rw[wF _ _ _ _ (show w.heap.size+1+1+1≠w.heap.size+1 by omega)];exact hc7.1
  ·rw[wF _ _ _ _ (show w.heap.size+1+1+1≠w.heap.size+1 by omega)];exact hc7.2
 have hgr:ahP (w2.setCell ⟨w.heap.size+1+1+1,3,none⟩ (sL (some ⟨g,0,none⟩) B.pairs.length gc)) g 0 vs:=aio fun j x hx=>by
  rw[wF _ _ _ _ (show w.heap.size+1+1+1≠g by omega)];exact q3 j x hx
 have hgf: ∀j,(w2.setCell ⟨w.heap.size+1+1+1,3,none⟩ (sL (some ⟨g,0,none⟩) B.pairs.length gc)).frozen? ⟨g,j,none⟩=false:=fun j=>by rw[World.frozen?_setCell];exact q4' j
 have hwb5:=hwb.setCell (p:=⟨w.heap.size+1+1+1,3,none⟩) (show w.heap.size<=w.heap.size+1+1+1 by omega) (sL (some ⟨g,0,none⟩) B.pairs.length gc);have hgz:g<(w2.setCell ⟨w.heap.size+1+1+1,3,none⟩ (sL (some ⟨g,0,none⟩) B.pairs.length gc)).heap.size:=by simpa using q2
 have hrow5:=jm ⟨w.heap.size+1+1+1,3,none⟩ (sL (some ⟨g,0,none⟩) B.pairs.length gc) hrow;clear hr4 hr8 hr9 hc7 q3 q4' hwb q2 hrow hst hstf;generalize w2.setCell ⟨w.heap.size+1+1+1,3,none⟩ (sL (some ⟨g,0,none⟩) B.pairs.length gc)=W5 at *;have Hsh:=lH (And.intro hnp (And.intro hh1 (And.intro hcl (And.intro hhL hgb))));have H4:=lH h4;have H7:=lH h7;have H8:=lH h8;have H9:=lH h9;have Hgr:=lH hgr;have Hgf:=lH hgf;have Hwb:=lH hwb5;have Hgz:=lH hgz;have Hrow:=lH hrow5;have Hzs:=lH (And.intro hz3 hb3.size);clear h4 h7 h8 h9 hgr hgf hwb5 hgz hrow5 hz3 hb3 hz0 hz1 hz2
 go_wp2_with fail
 have hW:bX W5.heap.size W5 W5.drew:=(bR _ _).drew;have hi':(i:Int)<(B.pairs.length:Int):=by omega
 have hi0:(0 :Int)<=(i:Int):=Int.natCast_nonneg _;have z9:=ajq (n:=W5.heap.size) (w:=W5) (u:=W5) (bR _ _) H9.out.c3;have hq2:=ajq Hwb.out Hq2.out;have HC:Hid (∀u,bX W5.heap.size W5 u->u.cell? ⟨w.heap.size+1+1+1,3,none⟩=some (sL (some ⟨g,0,none⟩) B.pairs.length gc)/\u.cell? ⟨w.heap.size,3,none⟩=some (sL (some ⟨b,o,none⟩) B.pairs.length pc)/\u.cell? ⟨b,o+i*3+2,none⟩=some (sL (some ⟨sb,so,none⟩) L sc)):=lH fun u hu=>⟨ajq hu H9.out.c3,ajq hu H4.out.c3,ajq hu hq2⟩;clear z9 hq2;have hW':=HC.out _ hW;refine aif 14 14 (fun u=>u.cell? ⟨w.heap.size+1+1+1,3,none⟩=some (sL (some ⟨g,0,none⟩) B.pairs.length gc)/\u.cell? ⟨w.heap.size,3,none⟩=some (sL (some ⟨b,o,none⟩) B.pairs.length pc)/\u.cell? ⟨b,o+i*3+2,none⟩=some (sL (some ⟨sb,so,none⟩) L sc)) (by kernel_rfl) ?_;refine ahN 0 (pN (some ⟨w.heap.size+1+1+1,3,none⟩)) hW' ?_ (hr:=fun u hu=>by go_simp);refine ahN 1 (sL (some ⟨g,0,none⟩) B.pairs.length gc) hW' ?_ (hr:=fun u hu=>by obtain⟨c0,c1,c2⟩:=hu;go_simp);refine ahN 2 (iN qi (i:Int)) hW' ?_ (hr:=fun u hu=>by go_simp);refine ahN 4 (pN (some ⟨w.heap.size,3,none⟩)) hW' ?_ (hr:=fun u hu=>by go_simp);refine ahN 5 (sL (some ⟨b,o,none⟩) B.pairs.length pc) hW' ?_ (hr:=fun u hu=>by obtain⟨c0,c1,c2⟩:=hu;go_simp);refine ahN 6 (iN qi (i:Int)) hW' ?_ (hr:=fun u hu=>by go_simp);refine ahN 7 (pN (some ⟨b,o+i*3,none⟩)) hW' ?_ (hr:=fun u hu=>by go_simp);refine ahN 8 (pN (some ⟨b,o+i*3+2,none⟩)) hW' ?_ (hr:=fun u hu=>by go_simp);refine ahN 9 (sL (some ⟨sb,so,none⟩) L sc) hW' ?_ (hr:=fun u hu=>by obtain⟨c0,c1,c2⟩:=hu;go_simp);refine ahQ 3 (h:=ah0 (v:= sL (some ⟨W5.drew.heap.size,0,none⟩) 0 0) (w':=W5.drew.alloc (cL #[] 43)) (by go_simp) ⟨fun _=>HC.out _ (hW.alloc hW.size _), ?_⟩);have ho:=aip W5.drew W5.heap.size 43 2 hW.size;have hu0:=hW.alloc hW.size (cL #[] 43);generalize W5.drew.alloc (cL #[] 43)=u0 at *;generalize W5.drew.heap.size=b3 at *;simp only[Act.put,List.setIfInBounds_toArray,List.set,List.getElem_toArray,List.getElem_cons_zero,List.getElem_cons_succ];have hw0:=Hwb.out.trans (hu0.mono Hwb.out.size);refine ahQ 10 (h:=aii (.tmp 19) (.tmp 25) 54 (by rfl) W5.heap.size 43 i5 (.agg #[iN qi 0,iN qi 0]) 2 16 Tryz.underlying54 hi5 hz5 hy5 hw5 (by rfl) (by decide) _ _ _ (by rfl) ho ⟨sb,so,none⟩ L sc (duo (B.pairs[i]).calls) (by rfl)
  (by rw[EW,HL.out]) (fun j x hx=>ajq hw0 (Ny Hq3.out _ rfl j x hx)) (EX _) (by unfold maxLen;omega) (by omega) hu0.size fun v2 u2 ho2 hg2 _=> ?_)
 have hu2:bX W5.heap.size W5 u2:=hu0.grown hg2 hu0.size (fun j hj=>(ho.lt j hj).1);refine⟨fun _=>HC.out _ hu2, ?_⟩;have hS2:=HC.out _ hu2;obtain⟨cb,cc,rfl,q1,q2,q3,q4',q5,_⟩:=ru ho2 (by omega);rw[Nat.zero_add,List.nil_append] at *;have hcg:g≠cb:=by have:=Hgz.out;omega
 simp only[Act.put,List.setIfInBounds_toArray,List.set,List.getElem_toArray,List.getElem_cons_zero,List.getElem_cons_succ];refine ahN 11 (pN (some ⟨g,i*3,none⟩)) hS2 ?_ (hr:=fun u hu=>by go_simp);refine ahN 12 (pN (some ⟨g,i*3+2,none⟩)) hS2 ?_ (hr:=fun u hu=>by go_simp);simp only[Act.put,List.setIfInBounds_toArray,List.set,List.getElem_toArray,List.getElem_cons_zero,List.getElem_cons_succ];have hlt2:=hu2.size;have hg2c:u2.cell? ⟨g,i*3+2,none⟩=some (sL (some ⟨sb,so,none⟩) L sc):=by
  obtain⟨sa1,sc1,e0,e1,e2,_⟩:=aiO (i:=i) (x:=pr3 B.pairs[i]) (Hrv.out.below Hwb.out (nR _)) Hgr.out (by rw[List.getElem?_map,lG hi];rfl);obtain⟨sa3,sc3,f0,f1,f2,_⟩:=aiO (i:=i) (x:=pr3 B.pairs[i]) Hrv.out Htr.out (by rw[List.getElem?_map,lG hi];rfl);obtain⟨sa4,sc4,k1,_⟩:=Hrv.out.get i (pr3 B.pairs[i]) (by rw[List.getElem?_map,lG hi];rfl);have k2:=(ET _ _ _ k1).2.2;have k3:=Htr.out _ _ k2;have k4:=Hgr.out _ _ k2;rw[BH] at k3 k4;rw[<-Nat.add_assoc,Hq2.out] at k3;rw[Nat.zero_add] at k4;rw[<-Option.some.inj k3] at k4;exact ajq hu2 k4
 have hg2f:u2.frozen? ⟨g,i*3+2,none⟩=false:=by rw[(ak hu2).2 _ _ Hgz.out];exact Hgf.out _
 refine ahQ 13 (h:=ah1 (w':=u2.setCell ⟨g,i*3+2,none⟩ (sL (some ⟨cb,0,none⟩) L cc)) (by go_simp) ⟨fun _=> ?_, ?_⟩)
 ·obtain⟨c0,c1,c2⟩:=hS2;have hbz:b<w.heap.size:=wBk w _ Hq2.out;have hgb:=Hsh.out.2.2.2.2;refine⟨?_, ?_, ?_⟩
  ·rw[wF _ _ _ _ (show g≠w.heap.size+1+1+1 by omega)];exact c0
  ·rw[wF _ _ _ _ (show g≠w.heap.size by omega)];exact c1
  ·rw[wF _ _ _ _ (show g≠b by omega)];exact c2
 refine ahZ ?_;simp only[Act.put,List.getElem_toArray,List.getElem_cons_zero,List.getElem_cons_succ];have hgb:=Hsh.out.2.2.2.2;have hWz:w.heap.size+1+1+1+1<=W5.heap.size:=by have:=Hgz.out;omega
 have h4:=(H4.out.below hu2 (by omega)).far (c:=g) (k:=i*3+2) (by omega) (sL (some ⟨cb,0,none⟩) L cc);have h8:=(H8.out.below hu2 (by omega)).far (c:=g) (k:=i*3+2) (by omega) (sL (some ⟨cb,0,none⟩) L cc);have h9:=(H9.out.below hu2 (by omega)).far (c:=g) (k:=i*3+2) (by omega) (sL (some ⟨cb,0,none⟩) L cc);have h7:(u2.setCell ⟨g,i*3+2,none⟩ (sL (some ⟨cb,0,none⟩) L cc)).cell? ⟨w.heap.size+1,0,none⟩=some (iN qi x1)/\(u2.setCell ⟨g,i*3+2,none⟩ (sL (some ⟨cb,0,none⟩) L cc)).cell? ⟨w.heap.size+1,1,none⟩=some (iN qi x2):=by
  constructor
  ·rw[wF _ _ _ _ (show g≠w.heap.size+1 by omega)];exact ajq hu2 H7.out.1
  ·rw[wF _ _ _ _ (show g≠w.heap.size+1 by omega)];exact ajq hu2 H7.out.2
 have hgi:(u2.setCell ⟨g,i*3+2,none⟩ (sL (some ⟨cb,0,none⟩) L cc)).cell? ⟨g,i*3+2,none⟩=some (sL (some ⟨cb,0,none⟩) L cc):=World.cell?_setCell_same _ _ _ hg2c;have hgo: ∀j x,j≠i*3+2->(tri vs)[j]? =some x->(u2.setCell ⟨g,i*3+2,none⟩ (sL (some ⟨cb,0,none⟩) L cc)).cell? ⟨g,j,none⟩=some x:=fun j x hj hx=>by
  rw[wO _ _ _ _ (by intro e;simp only[Addr.mk.injEq] at e;omega)];have:=Hgr.out j x hx;rw[BH,Nat.zero_add] at this;exact ajq hu2 this
 have hcc: ∀j x,(duo (B.pairs[i]).calls)[j]? =some x->(u2.setCell ⟨g,i*3+2,none⟩ (sL (some ⟨cb,0,none⟩) L cc)).cell? ⟨cb,j,none⟩=some x:=fun j x hx=>by
  rw[wF _ _ _ _ hcg];exact q3 j x hx
 have hcf: ∀j,(u2.setCell ⟨g,i*3+2,none⟩ (sL (some ⟨cb,0,none⟩) L cc)).frozen? ⟨cb,j,none⟩=false:=fun j=>by rw[World.frozen?_setCell];exact q4' j
 have hwx:bX w.heap.size w (u2.setCell ⟨g,i*3+2,none⟩ (sL (some ⟨cb,0,none⟩) L cc)):=(Hwb.out.trans (hu2.mono Hwb.out.size)).setCell (p:=⟨g,i*3+2,none⟩) (show w.heap.size<=g by omega) _;have hrx:bG (u2.setCell ⟨g,i*3+2,none⟩ (sL (some ⟨cb,0,none⟩) L cc)) (some ⟨g,0,none⟩):=jm _ _ (nS Hrow.out hu2);have hcbz:w.heap.size+1+1+1<cb:=by have:=Hgz.out;omega
 clear hg2c hg2f q2 q3 q4' ho ho2 hg2 hu0 hu2 hW hW' hS2 hw0 HC hlt2;generalize (u2.setCell ⟨g,i*3+2,none⟩ (sL (some ⟨cb,0,none⟩) L cc))=W6 at *;have K4:=lH h4;have K7:=lH h7;have K8:=lH h8;have K9:=lH h9;have Kgi:=lH hgi;have Kgo:=lH hgo;have Kcc:=lH hcc;have Kcf:=lH hcf;have Kwx:=lH hwx;have Krx:=lH hrx;have Kn:=lH (And.intro hcg (And.intro hcbz hWz));clear h4 h7 h8 h9 hgi hgo hcc hcf hwx hrx hcg hcbz hWz hi' hi0
 go_wp2_with fail
 have hi':(i:Int)<(B.pairs.length:Int):=by omega
 have hi0:(0 :Int)<=(i:Int):=Int.natCast_nonneg _;have hh':(h:Int)<(L:Int):=by omega
 have hh0:(0 :Int)<=(h:Int):=Int.natCast_nonneg _;have hS:W6.drew.cell? ⟨w.heap.size+1+1+1,3,none⟩=some (sL (some ⟨g,0,none⟩) B.pairs.length gc)/\W6.drew.cell? ⟨g,i*3+2,none⟩=some (sL (some ⟨cb,0,none⟩) L cc)/\W6.drew.cell? ⟨w.heap.size+1,0,none⟩=some (iN qi x1)/\W6.drew.cell? ⟨w.heap.size+1,1,none⟩=some (iN qi x2):=⟨K9.out.c3,Kgi.out,K7.out.1,K7.out.2⟩;refine aif 10 10 (fun u=>u.cell? ⟨w.heap.size+1+1+1,3,none⟩=some (sL (some ⟨g,0,none⟩) B.pairs.length gc)/\u.cell? ⟨g,i*3+2,none⟩=some (sL (some ⟨cb,0,none⟩) L cc)/\u.cell? ⟨w.heap.size+1,0,none⟩=some (iN qi x1)/\u.cell? ⟨w.heap.size+1,1,none⟩=some (iN qi x2)) (by kernel_rfl) ?_;refine ahN 0 (pN (some ⟨w.heap.size+1+1+1,3,none⟩)) hS ?_ (hr:=fun u hu=>by go_simp);refine ahN 1 (sL (some ⟨g,0,none⟩) B.pairs.length gc) hS ?_ (hr:=fun u hu=>by obtain⟨c0,c1,c2,c3⟩:=hu;go_simp);refine ahN 2 (iN qi (i:Int)) hS ?_ (hr:=fun u hu=>by go_simp);refine ahN 3 (pN (some ⟨g,i*3,none⟩)) hS ?_ (hr:=fun u hu=>by go_simp);refine ahN 4 (pN (some ⟨g,i*3+2,none⟩)) hS ?_ (hr:=fun u hu=>by go_simp);refine ahN 5 (sL (some ⟨cb,0,none⟩) L cc) hS ?_ (hr:=fun u hu=>by obtain⟨c0,c1,c2,c3⟩:=hu;go_simp);refine ahN 6 (iN qi (h:Int)) hS ?_ (hr:=fun u hu=>by go_simp);refine ahN 7 (.agg #[iN qi x1,iN qi x2]) hS ?_ (hr:=fun u hu=>by obtain⟨c0,c1,c2,c3⟩:=hu;go_simp);refine ahN 8 (pN (some ⟨cb,h*2,none⟩)) hS ?_ (hr:=fun u hu=>by go_simp);simp only[Act.put,List.setIfInBounds_toArray,List.set,List.getElem_toArray,List.getElem_cons_zero,List.getElem_cons_succ];obtain⟨hcg,hcbz,hWz⟩:=Kn.out;have hgb:=Hsh.out.2.2.2.2;have hhl:h<(B.pairs[i]).calls.length:=by rw[HL.out];exact hhL
 obtain⟨d0,d1⟩:=oV _ h _ (lG hhl);have d0':W6.cell? ⟨cb,h*2,none⟩=some (iN qi ((B.pairs[i]).calls[h]).1):=Kcc.out _ _ d0;have d1':W6.cell? ⟨cb,h*2+1,none⟩=some (iN qi ((B.pairs[i]).calls[h]).2):=Kcc.out _ _ d1;have e0:W6.frozen? ⟨cb,h*2,none⟩=false:=Kcf.out _;have e1:W6.frozen? ⟨cb,h*2+1,none⟩=false:=Kcf.out _;refine ahQ 9 (h:=ah1 (w':=((W6.drew.setCell ⟨cb,h*2,none⟩ (iN qi x1)).setCell ⟨cb,h*2+1,none⟩ (iN qi x2))) (by go_simp) ⟨fun _=> ?_, ?_⟩)
 ·obtain⟨c0,c1,c2,c3⟩:=hS;refine⟨?_, ?_, ?_, ?_⟩
  ·rw[wF _ _ _ _ (show cb≠w.heap.size+1+1+1 by omega),wF _ _ _ _ (show cb≠w.heap.size+1+1+1 by omega)];exact c0
  ·rw[wF _ _ _ _ (Ne.symm hcg),wF _ _ _ _ (Ne.symm hcg)];exact c1
  ·rw[wF _ _ _ _ (show cb≠w.heap.size+1 by omega),wF _ _ _ _ (show cb≠w.heap.size+1 by omega)];exact c2
  ·rw[wF _ _ _ _ (show cb≠w.heap.size+1 by omega),wF _ _ _ _ (show cb≠w.heap.size+1 by omega)];exact c3
 refine ahZ ?_;simp only[Act.put,List.getElem_toArray,List.getElem_cons_zero,List.getElem_cons_succ];have h8:=(K8.out.drew.far (c:=cb) (k:=h*2) (by omega) (iN qi x1)).far (c:=cb) (k:=h*2+1) (by omega) (iN qi x2);have h9:=(K9.out.drew.far (c:=cb) (k:=h*2) (by omega) (iN qi x1)).far (c:=cb) (k:=h*2+1) (by omega) (iN qi x2);have hwx:bX w.heap.size w ((W6.drew.setCell ⟨cb,h*2,none⟩ (iN qi x1)).setCell ⟨cb,h*2+1,none⟩ (iN qi x2)):=(Kwx.out.drew.setCell (p:=⟨cb,h*2,none⟩) (show w.heap.size<=cb by omega) _).setCell (p:=⟨cb,h*2+1,none⟩) (show w.heap.size<=cb by omega) _;have hrx:bG ((W6.drew.setCell ⟨cb,h*2,none⟩ (iN qi x1)).setCell ⟨cb,h*2+1,none⟩ (iN qi x2)) (some ⟨g,0,none⟩):=jm _ _ (jm _ _ Krx.out);have hgc: ∀j,((W6.drew.setCell ⟨cb,h*2,none⟩ (iN qi x1)).setCell ⟨cb,h*2+1,none⟩ (iN qi x2)).cell? ⟨g,j,none⟩=W6.cell? ⟨g,j,none⟩:=fun j=>by
  rw[wF _ _ _ _ (Ne.symm hcg),wF _ _ _ _ (Ne.symm hcg)];rfl
 have hcc: ∀(k:Nat) (y:Int×Int),(B.pairs[i]).calls[k]? =some y->((W6.drew.setCell ⟨cb,h*2,none⟩ (iN qi x1)).setCell ⟨cb,h*2+1,none⟩ (iN qi x2)).cell? ⟨cb,k*2,none⟩=some (iN qi (if k=h then (x1,x2) else y).1)/\((W6.drew.setCell ⟨cb,h*2,none⟩ (iN qi x1)).setCell ⟨cb,h*2+1,none⟩ (iN qi x2)).cell? ⟨cb,k*2+1,none⟩=some (iN qi (if k=h then (x1,x2) else y).2):=fun k y hy=>by
  obtain⟨y0,y1⟩:=oV _ k _ hy;have y0':W6.drew.cell? ⟨cb,k*2,none⟩=some (iN qi y.1):=Kcc.out _ _ y0;have y1':W6.drew.cell? ⟨cb,k*2+1,none⟩=some (iN qi y.2):=Kcc.out _ _ y1;by_cases c:k=h
  ·subst c;rw[if_pos rfl];constructor
   ·rw[wO _ _ _ _ (by intro e;simp only[Addr.mk.injEq] at e;omega)];exact World.cell?_setCell_same _ _ _ y0'
   ·refine World.cell?_setCell_same _ _ _ (?_: _=some (iN qi y.2));rw[wO _ _ _ _ (by intro e;simp only[Addr.mk.injEq] at e;omega)];exact y1'
  ·rw[if_neg c];constructor
   ·rw[wO _ _ _ _ (by intro e;simp only[Addr.mk.injEq] at e;omega),wO _ _ _ _ (by intro e;simp only[Addr.mk.injEq] at e;omega)];exact y0'
   ·rw[wO _ _ _ _ (by intro e;simp only[Addr.mk.injEq] at e;omega),wO _ _ _ _ (by intro e;simp only[Addr.mk.injEq] at e;omega)];exact y1'
 clear d0 d1 d0' d1' e0 e1 hS;generalize ((W6.drew.setCell ⟨cb,h*2,none⟩ (iN qi x1)).setCell ⟨cb,h*2+1,none⟩ (iN qi x2))=u3 at *;have Hend:Hid (∀u,(∀j,u.cell? ⟨g,j,none⟩=u3.cell? ⟨g,j,none⟩)->(∀j,u.cell? ⟨cb,j,none⟩=u3.cell? ⟨cb,j,none⟩)->bX w.heap.size w u->aB u ⟨ta,la,some ⟨g,0,none⟩,tc,lc,gc⟩ (fD B i h (x1,x2))):=lH fun u hu1 hu2 hb=>by
  refine ajM (V:=⟨ta,la,some ⟨b,o,none⟩,tc,lc,pc⟩) (cb:=cb) (cc:=cc) Hs.out rfl hi hb (fun j hj=> ?_) ?_ (fun k y hy=> ?_)
  ·have hxj:(B.pairs.map pr3)[j]? =some (pr3 B.pairs[j]):=by rw[List.getElem?_map,lG hj];rfl
   obtain⟨sa1,sc1,k1,_⟩:=Hrv.out.get j _ hxj;obtain⟨t0,t1,t2⟩:=ET _ _ _ k1;have hpo:B.pone j=B.pairs[j].one:=by unfold Bk.pone;rw[lG hj];rfl
   have hpt:B.ptwo j=B.pairs[j].two:=by unfold Bk.ptwo;rw[lG hj];rfl
   rw[hpo,hpt];refine⟨?_, ?_,fun hne=> ?_⟩
   ·rw[hu1,hgc];exact Kgo.out _ _ (by omega) t0
   ·rw[hu1,hgc];exact Kgo.out _ _ (by omega) t1
   ·rw[hu1,hgc,Kgo.out _ _ (by omega) t2];have k3:=Htr.out _ _ t2;rw[BH,<-Nat.add_assoc] at k3;exact k3.symm
  ·rw[hu1,hgc,HL.out];exact Kgi.out
  ·rw[hu2,hu2];exact hcc k y hy
 have Hwx:=lH hwx;have Hrx:=lH hrx;have Hne:=lH (And.intro hcg (And.intro hcbz hgb));clear hwx hrx hgc hcc hhl hi' hi0 hh' hh0 hcg hcbz hWz hgb;obtain⟨_,c0,c1,c2,c3,f0,f1,f2,f3⟩:=h9;obtain⟨_,e0,e1,e2,e3,g0,g1,g2,g3⟩:=h8;go_wp2;refine bodyPost_ret (v:= .agg #[iN qi B.hours,sL ta B.towns.length tc,sL la B.links.length lc,sL (some ⟨g,0,none⟩) B.pairs.length gc]) (by simp[results,Tryz.results49,go_sem,e0,e1,e2,e3]) rfl ?_;obtain⟨hcg,hcbz,hgb⟩:=Hne.out;have hbz:=aik Hwx.out (b:=w.heap.size+1+1) (show w.heap.size<=w.heap.size+1+1 by omega) rfl (iN qi B.hours) (sL ta B.towns.length tc) (sL la B.links.length lc) (sL (some ⟨g,0,none⟩) B.pairs.length gc);refine⟨g,gc, ?_,Hend.out _ (fun j=> ?_) (fun j=> ?_) hbz,jm _ _ (jm _ _ (jm _ _ (jm _ _ Hrx.out))),hbz⟩
 ·simp only[BkV.val]
 ·have hne:w.heap.size+1+1≠g:=by omega
  rw[wF _ _ _ _ hne,wF _ _ _ _ hne,wF _ _ _ _ hne,wF _ _ _ _ hne]
 ·have hne:w.heap.size+1+1≠cb:=by omega
  rw[wF _ _ _ _ hne,wF _ _ _ _ hne,wF _ _ _ _ hne,wF _ _ _ _ hne]
def an2 (B:Bk) (k n:Int):Int:=if btw k 0 ((B.pairs.length:Int)-1)=true then fF B (bP B n) else fF B false
def an0 (B:Bk) (k n:Int):Value:=if an2 B k n=0 then nU B k.toNat n else .tuple #[iN qi 0,iN qi (an2 B k n)]
theorem aok {B:Bk} {k n:Int} (h:an2 B k n=0):B.alarm=0/\btw k 0 ((B.pairs.length:Int)-1)=true/\btw n 0 (B.hours-1)=true:=by
 unfold an2 fF at h;by_cases hA:B.alarm=0
 ·have hh:=(gY hA).fine.hours;rw[if_pos hA,if_pos hA] at h
  cases hb:btw k 0 ((B.pairs.length:Int)-1) with
  |false=>rw[hb] at h;cases h
  |true=>
   rw[hb,if_pos rfl] at h;refine⟨hA,rfl, ?_⟩
   cases ht:bP B n with
   |false=>rw[ht] at h;cases h
   |true=>
    unfold bP at ht;rwa [show RowKit.wrap64 (B.hours-1)=B.hours-1 from IntWalk.wrap64_in _ (by omega)] at ht
 ·rw[if_neg hA,if_neg hA] at h
  split at h<;>exact absurd h hA
theorem m8 (V:BkV) (B:Bk) (k n:Int) (w:wD) (hs:aB w V B) (hv:Vars w) (hpc:V.pa=none->V.pc=0):
  Calls tP 8 #[V.val B,iN qi k,iN qi n] w fun e w'=>e= rT (an0 B k n)/\bX w.heap.size w w':=by
 by_cases hal:an2 B k n=0
 ·obtain⟨hA,hk,hn⟩:=aok hal;have hG:=gY hA;have hh:=hG.fine.hours;obtain⟨i,rfl⟩: ∃i:Nat,k=(i:Int):=⟨k.toNat,by simp[btw] at hk;omega⟩;obtain⟨h,rfl⟩: ∃h:Nat,n=(h:Int):=⟨n.toNat,by simp[btw] at hn;omega⟩;have hq:an0 B (i:Int) (h:Int)=nU B i (h:Int):=by unfold an0;rw[if_pos hal];rfl
  rw[hq];have hop:fF B (bP B (h:Int))=0:=by unfold an2 at hal;rwa [hk,if_pos rfl] at hal
  exact aaI V B i h w hs hv hpc hG (by simp[btw] at hk;omega) (by simp[btw] at hn;omega) hop
 ·have hq:an0 B k n= .tuple #[iN qi 0,iN qi (an2 B k n)]:=by unfold an0;rw[if_neg hal]
  rw[hq];exact aoj V B k n _ w hs hv rfl hal
theorem aol {B:Bk} {i h:Nat} {lo up:Int} (hb:iD B i h=(lo,up)):gtr i 1 [(h:Int)] B=if dw (lo+1,up+1) then (fD B i h (lo+1,up+1),true) else (B,false):=by
 unfold gtr;rw[Int.toNat_natCast,hb];rfl
theorem aom (V:BkV) (B:Bk) (k n:Int) (w:wD) (hs:aB w V B) (hz: ∀t∈B.towns,t.size<=1000000) (hA1: ¬fF B (btw k 0 ((B.pairs.length:Int)-1))=0):
  Calls tP 9 #[V.val B,iN qi k,iN qi n] w fun e w'=>e= rT (an0 B k n)/\bX w.heap.size w w':=by
 have hb0:bX w.heap.size w (w.alloc (cL #[iN qi B.hours,sL V.ta B.towns.length V.tc,sL V.la B.links.length V.lc,sL V.pa B.pairs.length V.pc] 26)):=(bR _ _).alloc (nR _) _;have HCk:=lH (r45 V B k _ (hs.below hb0 (nR _)) hz);have HB0:=lH hb0;clear hb0 hz;have HR:Hid (an0 B k n= .tuple #[iN qi 0,iN qi (fF B (btw k 0 ((B.pairs.length:Int)-1)))]):=lH (by
  have e:an2 B k n=fF B (btw k 0 ((B.pairs.length:Int)-1)):=by
   unfold an2;by_cases hA:B.alarm=0
   ·cases hb:btw k 0 ((B.pairs.length:Int)-1) with
    |false=>rfl
    |true=>rw[hb] at hA1;unfold fF at hA1;rw[if_pos hA] at hA1;exact absurd rfl hA1
   ·unfold fF;rw[if_neg hA,if_neg hA,if_neg hA]
    split<;>rfl
  unfold an0;rw[e,if_neg hA1])
 rw[HR.out];generalize fF B (btw k 0 ((B.pairs.length:Int)-1))=A at *;obtain⟨ta,la,pa,tc,lc,pc⟩:=V;simp only[BkV.val] at *;clear hs HR;go_enter Tryz.func9,Tryz.ntmps9
 go_wp2_with fail
 refine HCk.out.mono ?_;rintro e w1 ⟨rfl,hb1⟩;have HB1:=lH (HB0.out.trans (hb1.mono (by simp)));clear hb1 HCk HB0;go_wp2
 go_ret2
 exact⟨rfl,HB1.out⟩
theorem aon (V:BkV) (B:Bk) (k n:Int) (w:wD) (hs:aB w V B) (hz: ∀t∈B.towns,t.size<=1000000) (hA1:fF B (btw k 0 ((B.pairs.length:Int)-1))=0) (hbt:btw n 0 (B.hours-1)=false):
  Calls tP 9 #[V.val B,iN qi k,iN qi n] w fun e w'=>e= rT (an0 B k n)/\bX w.heap.size w w':=by
 have hb0:bX w.heap.size w (w.alloc (cL #[iN qi B.hours,sL V.ta B.towns.length V.tc,sL V.la B.links.length V.lc,sL V.pa B.pairs.length V.pc] 26)):=(bR _ _).alloc (nR _) _;have HCk:=lH (r45 V B k _ (hs.below hb0 (nR _)) hz);have HB0:=lH hb0;clear hb0 hz;rw[hA1] at HCk;have hA:B.alarm=0:=by
  unfold fF at hA1;by_cases h:B.alarm=0
  ·exact h
  ·rwa [if_neg h] at hA1
 have hk:btw k 0 ((B.pairs.length:Int)-1)=true:=by
  unfold fF at hA1;rw[if_pos hA] at hA1
  cases hb:btw k 0 ((B.pairs.length:Int)-1) with
  |true=>rfl
  |false=>rw[hb] at hA1;cases hA1
 have hG:=gY hA;have hh:=hG.fine.hours;have hw:IntKind.wrap qi (B.hours-1)=B.hours-1:=IntWalk.i64_in _ (by omega);have hth:bP B n=btw n 0 (B.hours-1):=by unfold bP;rw[show RowKit.wrap64 (B.hours-1)=B.hours-1 from IntWalk.wrap64_in _ (by omega)]
 have hal:an2 B k n=if btw n 0 (B.hours-1)=true then 0 else 6:=by unfold an2;rw[if_pos hk,hth];unfold fF;rw[if_pos hA]
 obtain⟨q,hq⟩: ∃q,q=B.hours-1:=⟨_,rfl⟩;have hw2:=hw.trans hq.symm;rw[<-hq] at hal;rw[<-hq] at hbt;rw[hbt,if_neg (by decide)] at hal;have HR:Hid (an0 B k n= .tuple #[iN qi 0,iN qi 6]):=lH (by unfold an0;rw[hal];rfl);rw[HR.out];have Hbt:=lH hbt;obtain⟨ta,la,pa,tc,lc,pc⟩:=V;simp only[BkV.val] at *;clear hs hA1 hA hk hG hh hw hth hal hbt hq HR;go_enter Tryz.func9,Tryz.ntmps9
 go_wp2_with fail
 refine HCk.out.mono ?_;rintro e w1 ⟨rfl,hb1⟩;have HB1:=lH (HB0.out.trans (hb1.mono (by simp)));obtain⟨p0,p1,p2,p3⟩:=amL (V:=⟨ta,la,pa,tc,lc,pc⟩) (u:=w1) (by simpa using hb1);clear hb1 HCk HB0
 go_wp2_with fail
 refine(gU _ _ _ _).mono ?_;rintro e w2 ⟨rfl,rfl⟩;rw[Hbt.out];go_wp2
 go_ret2
 exact⟨rfl,HB1.out⟩
theorem aoo (V:BkV) (B:Bk) (k n:Int) (w:wD) (hs:aB w V B) (hz: ∀t∈B.towns,t.size<=1000000) (hA1:fF B (btw k 0 ((B.pairs.length:Int)-1))=0) (hbt:btw n 0 (B.hours-1)=true):
  Calls tP 9 #[V.val B,iN qi k,iN qi n] w fun e w'=>e= rT (an0 B k n)/\bX w.heap.size w w':=by
 have hb0:bX w.heap.size w (w.alloc (cL #[iN qi B.hours,sL V.ta B.towns.length V.tc,sL V.la B.links.length V.lc,sL V.pa B.pairs.length V.pc] 26)):=(bR _ _).alloc (nR _) _;have HCk:=lH (r45 V B k _ (hs.below hb0 (nR _)) hz);have HB0:=lH hb0;clear hb0 hz;rw[hA1] at HCk;have hA:B.alarm=0:=by
  unfold fF at hA1;by_cases h:B.alarm=0
  ·exact h
  ·rwa [if_neg h] at hA1
 have hk:btw k 0 ((B.pairs.length:Int)-1)=true:=by
  unfold fF at hA1;rw[if_pos hA] at hA1
  cases hb:btw k 0 ((B.pairs.length:Int)-1) with
  |true=>rfl
  |false=>rw[hb] at hA1;cases hA1
 have hG:=gY hA;have hh:=hG.fine.hours;have hw:IntKind.wrap qi (B.hours-1)=B.hours-1:=IntWalk.i64_in _ (by omega);have hth:bP B n=btw n 0 (B.hours-1):=by unfold bP;rw[show RowKit.wrap64 (B.hours-1)=B.hours-1 from IntWalk.wrap64_in _ (by omega)]
 have hal:an2 B k n=if btw n 0 (B.hours-1)=true then 0 else 6:=by unfold an2;rw[if_pos hk,hth];unfold fF;rw[if_pos hA]
 obtain⟨q,hq⟩: ∃q,q=B.hours-1:=⟨_,rfl⟩;have hw2:=hw.trans hq.symm;rw[<-hq] at hal;rw[<-hq] at hbt;obtain⟨i,rfl⟩: ∃i:Nat,k=(i:Int):=⟨k.toNat,by simp[btw] at hk;omega⟩;obtain⟨h,rfl⟩: ∃h:Nat,n=(h:Int):=⟨n.toNat,by simp[btw] at hbt;omega⟩;have hip:i<B.pairs.length:=by simp[btw] at hk;omega
 have hhl:(h:Int)<B.hours:=by simp[btw] at hbt;omega
 have hx:B.pairs[i]? =some B.pairs[i]:=lG hip;obtain⟨b,o,sa,sc,e,_,_,h3,h4,_⟩:=hs.pairs i _ hx;have hc:=(hG.fine.calls i _ hx).1;have hlt:h<B.pairs[i].calls.length:=by omega
 have hy:B.pairs[i].calls[h]? =some B.pairs[i].calls[h]:=lG hlt;obtain⟨sb,so,e2,g0,g1⟩:=h4 h _ hy;have hbad:=(hG.pairs i _ hx).2.2.2.2;have hok:dw B.pairs[i].calls[h]=true:=by
  unfold jc at hbad;rw[List.any_eq_false] at hbad;have:=hbad _ (List.mem_of_getElem? hy);simpa using this
 have hba:iD B i h=B.pairs[i].calls[h]:=by unfold iD;rw[hx];simp only[Option.bind_some,hy];rfl
 subst e2;generalize B.pairs[i].calls[h]=x at *;generalize B.pairs[i].calls.length=nn at *;obtain⟨lo,up⟩:=x;simp only at g0 g1;have hbd:0<=lo/\lo<=up/\up<=5:=by simp[dw] at hok;omega
 rw[hbt,if_pos rfl] at hal;have hmq:an0 B (i:Int) (h:Int)=if dw (lo+1,up+1)=true then .tuple #[iN qi ((aC (fD B i h (lo+1,up+1)) aT).2-(aC B aT).2),iN qi 0] else .tuple #[iN qi 0,iN qi 1]:=by
  unfold an0;rw[if_pos hal,Int.toNat_natCast];unfold nU;have hop:fF B (bP B (h:Int))=0:=by unfold an2 at hal;rwa [hk,if_pos rfl] at hal
  rw[if_pos hop,aol hba]
  split<;>simp only[if_true,Bool.false_eq_true,if_false]
 have HQ:=lH hmq;have H47:=lH (r47 lo up 1 (by omega) (by omega) (by omega));have HCl:Hid (∀u,bX w.heap.size w u->u.cell? ⟨b,o+i*3+2,none⟩=some (sL (some ⟨sb,so,none⟩) nn sc)/\u.cell? ⟨sb,so+h*2,none⟩=some (iN qi lo)/\u.cell? ⟨sb,so+h*2+1,none⟩=some (iN qi up)):=lH fun u hu=>⟨aoF hu h3 (nR _),aoF hu g0 (nR _),aoF hu g1 (nR _)⟩;have hip2:(i:Int)<(B.pairs.length:Int):=by omega
 have hlt2:(h:Int)<(nn:Int):=by omega
 have Hbt:=lH hbt;have H43:Hid (∀u,bX w.heap.size w u->Calls tP 49 #[V.val B,iN qi (i:Int),iN qi (h:Int),.agg #[iN qi (lo+1),iN qi (up+1)]] u _):=lH fun u hu=>c43 V B i h (lo+1) (up+1) u (hs.below hu (nR _)) hG hip hhl;have H48:Hid (∀u,bX w.heap.size w u->Calls tP 48 #[V.val B] u _):=lH fun u hu=>r48 V B hG u (hs.below hu (nR _));have H48b:Hid (dw (lo+1,up+1)=true-> ∀(V':BkV) u,aB u V' (fD B i h (lo+1,up+1))->Calls tP 48 #[V'.val B] u fun e u'=>e= rT (iN qi (aC (fD B i h (lo+1,up+1)) aT).2)/\bX u.heap.size u u'):=lH fun hb V' u hin=>by
  have:=r48 V' (fD B i h (lo+1,up+1)) (hG.setCall hb) u hin;have hv:V'.val (fD B i h (lo+1,up+1))=V'.val B:=by
   unfold BkV.val;rw[show (fD B i h (lo+1,up+1)).pairs.length=B.pairs.length from List.length_modify ..];rfl
  rwa [hv] at this
 have hf1:=amS hG aT;have HF2:Hid (dw (lo+1,up+1)=true->0<=(aC (fD B i h (lo+1,up+1)) aT).2/\(aC (fD B i h (lo+1,up+1)) aT).2<=17820):=lH fun hb=>amS (hG.setCall hb) aT;have hbok:dw (lo+1,up+1)=decide (up+1<=5):=by
  by_cases hu5:up+1<=5
  ·simp[dw,hu5];omega
  ·simp[dw,hu5]
 rw[hbok] at HQ HF2 H48b;rw[HQ.out];obtain⟨MV,hMV⟩: ∃v,v=if decide (up+1<=5)=true then Value.tuple #[iN qi ((aC (fD B i h (lo+1,up+1)) aT).2-(aC B aT).2),iN qi 0] else .tuple #[iN qi 0,iN qi 1]:=⟨_,rfl⟩
 rw[<-hMV];have HMV:=lH hMV;clear hMV;generalize aC (fD B i h (lo+1,up+1)) aT=R2 at *;generalize aC B aT=R at *;obtain⟨ta,la,pa,tc,lc,pc⟩:=V;simp only[BkV.val] at *;subst e;clear hs hA1 hA hk hG hh hw hth hal hbt hx h3 h4 hc hlt hy g0 g1 hbad hok hba hmq hbok HQ hhl hq;go_enter Tryz.func9,Tryz.ntmps9
 go_wp2_with fail
 refine HCk.out.mono ?_;rintro e w1 ⟨rfl,hb1⟩;have HB1:=lH (HB0.out.trans (hb1.mono (by simp)));have HX:=lH (amL (V:=⟨ta,la,some ⟨b,o,none⟩,tc,lc,pc⟩) (u:=w1) (by simpa using hb1));obtain⟨p0,p1,p2,p3⟩:=HX.out;clear hb1 HCk HB0
 go_wp2_with fail
 refine(gU _ _ _ _).mono ?_;rintro e w2 ⟨rfl,rfl⟩;rw[Hbt.out];obtain⟨x1,x2,x3⟩:=HCl.out w1 HB1.out
 go_wp2_with fail
 refine(H47.out w1).mono ?_;rintro e w2 ⟨rfl,hb2⟩;have HB2:=lH (HB1.out.trans (hb2.mono HB1.out.size));obtain⟨y0,y1,y2,y3⟩:=HX.out;have HX2:=lH (And.intro (aoF hb2 y0 (nR _)) (And.intro (aoF hb2 y1 (nR _)) (And.intro (aoF hb2 y2 (nR _)) (aoF hb2 y3 (nR _)))));clear hb2 p0 p1 p2 p3 x1 x2 x3 y0 y1 y2 y3;by_cases hu5:up+1<=5
 ·have h5i: ¬(5 :Int)<up+1:=by omega
  have hf2:=HF2.out (by simpa using hu5);have H48c:=lH (H48b.out (by simpa using hu5));have hwd:IntKind.wrap qi (R2.2-R.2)=R2.2-R.2:=IntWalk.i64_in _ (by omega)
  go_wp2_with fail
  generalize hWd:w2.alloc (cL #[iN qi (lo+1),iN qi (up+1)] 43)=W;have HBW:Hid (bX w.heap.size w W):=lH (by subst hWd;exact HB2.out.alloc HB2.out.size _);obtain⟨⟨y0,y1,y2,y3⟩,y4,y5⟩:(W.cell? ⟨w.heap.size,0,none⟩=some (iN qi B.hours)/\W.cell? ⟨w.heap.size,1,none⟩=some (sL ta B.towns.length tc)/\W.cell? ⟨w.heap.size,2,none⟩=some (sL la B.links.length lc)/\W.cell? ⟨w.heap.size,3,none⟩=some (sL (some ⟨b,o,none⟩) B.pairs.length pc))/\W.cell? ⟨w2.heap.size,0,none⟩=some (iN qi (lo+1))/\W.cell? ⟨w2.heap.size,1,none⟩=some (iN qi (up+1)):=by
   subst hWd;obtain⟨y0,y1,y2,y3⟩:=HX2.out;have hbA:bX w2.heap.size w2 (w2.alloc (cL #[iN qi (lo+1),iN qi (up+1)] 43)):=(bR _ _).alloc (nR _) _;exact⟨⟨aoF hbA y0 (nR _),aoF hbA y1 (nR _),aoF hbA y2 (nR _),aoF hbA y3 (nR _)⟩,by go_simp,by go_simp⟩
  generalize w2.heap.size=b9 at *;have HC: ∀u,bX W.heap.size W u->(u.cell? ⟨w.heap.size,0,none⟩=some (iN qi B.hours)/\u.cell? ⟨w.heap.size,1,none⟩=some (sL ta B.towns.length tc)/\u.cell? ⟨w.heap.size,2,none⟩=some (sL la B.links.length lc)/\u.cell? ⟨w.heap.size,3,none⟩=some (sL (some ⟨b,o,none⟩) B.pairs.length pc))/\u.cell? ⟨b9,0,none⟩=some (iN qi (lo+1))/\u.cell? ⟨b9,1,none⟩=some (iN qi (up+1)):=fun u hu=>⟨⟨aoF hu y0 (nR _),aoF hu y1 (nR _),aoF hu y2 (nR _),aoF hu y3 (nR _)⟩,aoF hu y4 (nR _),aoF hu y5 (nR _)⟩;clear y0 y1 y2 y3 y4 y5 HX HX2 HCl;have hD:bX W.heap.size W W.drew:=(bR _ _).drew;refine aif 11 11 (bX W.heap.size W) (by kernel_rfl) ?_;refine ahN 0 (.agg #[iN qi B.hours,sL ta B.towns.length tc,sL la B.links.length lc,sL (some ⟨b,o,none⟩) B.pairs.length pc]) hD ?_ (hr:=fun u hu=>by obtain⟨⟨c0,c1,c2,c3⟩,c4,c5⟩:=HC u hu;go_simp);refine ahN 1 (iN qi (i:Int)) hD ?_ (hr:=fun u hu=>by go_simp);refine ahN 2 (iN qi (h:Int)) hD ?_ (hr:=fun u hu=>by go_simp);refine ahN 3 (.agg #[iN qi (lo+1),iN qi (up+1)]) hD ?_ (hr:=fun u hu=>by obtain⟨⟨c0,c1,c2,c3⟩,c4,c5⟩:=HC u hu;go_simp);refine ahN 6 (.agg #[iN qi B.hours,sL ta B.towns.length tc,sL la B.links.length lc,sL (some ⟨b,o,none⟩) B.pairs.length pc]) hD ?_ (hr:=fun u hu=>by obtain⟨⟨c0,c1,c2,c3⟩,c4,c5⟩:=HC u hu;go_simp);refine ahQ 4 (h:= ?_);refine ahW (f:=49) (args:= #[.agg #[iN qi B.hours,sL ta B.towns.length tc,sL la B.links.length lc,sL (some ⟨b,o,none⟩) B.pairs.length pc],iN qi (i:Int),iN qi (h:Int),.agg #[iN qi (lo+1),iN qi (up+1)]]) (w':=W.drew) (by go_simp) ((H43.out W.drew (HBW.out.trans (hD.mono HBW.out.size))).mono ?_);rintro e u1 ⟨g,gc,rfl,hin,_,hb1⟩;have hs1:=hD.trans (hb1.mono hD.size);refine⟨_,rfl,fun _=>hs1, ?_⟩;refine ahQ 5 (h:= ?_);refine ahW (f:=48) (args:= #[.agg #[iN qi B.hours,sL ta B.towns.length tc,sL la B.links.length lc,sL (some ⟨g,0,none⟩) B.pairs.length gc]]) (w':=u1) (by go_simp) ((H48c.out ⟨ta,la,some ⟨g,0,none⟩,tc,lc,gc⟩ u1 hin).mono ?_);rintro e u2 ⟨rfl,hb2⟩;have hs2:=hs1.trans (hb2.mono hs1.size);refine⟨_,rfl,fun _=>hs2, ?_⟩;refine ahQ 7 (h:= ?_);refine ahW (f:=48) (args:= #[.agg #[iN qi B.hours,sL ta B.towns.length tc,sL la B.links.length lc,sL (some ⟨b,o,none⟩) B.pairs.length pc]]) (w':=u2) (by go_simp) ((H48.out u2 (HBW.out.trans (hs2.mono HBW.out.size))).mono ?_);rintro e u3 ⟨rfl,hb3⟩;have hs3:=hs2.trans (hb3.mono hs2.size);refine⟨_,rfl,fun _=>hs3, ?_⟩;refine ahN 8 (iN qi (R2.2-R.2)) hs3 ?_ (hr:=fun u hu=>by go_simp);refine ahN 9 (iN qi (R2.2-R.2)) hs3 ?_ (hr:=fun u hu=>by go_simp);refine ahN 10 (iN qi 0) hs3 ?_ (hr:=fun u hu=>by go_simp);refine ahZ ?_;go_simp;go_wp2
  go_ret2
  exact⟨congrArg Ending.returned (HMV.out.trans (if_pos (by simpa using hu5))).symm,HBW.out.trans (hs3.mono HBW.out.size)⟩
 ·have h5i:(5 :Int)<up+1:=by omega
  go_wp2
  go_ret2
  exact⟨congrArg Ending.returned (HMV.out.trans (if_neg (by simpa using hu5))).symm,HB2.out.alloc HB2.out.size _⟩
theorem r9 (V:BkV) (B:Bk) (k n:Int) (w:wD) (hs:aB w V B) (hz: ∀t∈B.towns,t.size<=1000000):
  Calls tP 9 #[V.val B,iN qi k,iN qi n] w fun e w'=>e= rT (an0 B k n)/\bX w.heap.size w w':=by
 by_cases hA1:fF B (btw k 0 ((B.pairs.length:Int)-1))=0
 ·cases hbt:btw n 0 (B.hours-1) with
  |false=>exact aon V B k n w hs hz hA1 hbt
  |true=>exact aoo V B k n w hs hz hA1 hbt
 ·exact aom V B k n w hs hz hA1
theorem Alike.trans {A B C:Bk} (s:Alike A B) (t:Alike B C):Alike A C:=
 ⟨t.hours.trans s.hours,t.towns.trans s.towns,t.links.trans s.links,t.len.trans s.len,fun i=>(t.one i).trans (s.one i),fun i=>(t.two i).trans (s.two i)⟩
theorem Alike.symm {A B:Bk} (s:Alike A B):Alike B A:=
 ⟨s.hours.symm,s.towns.symm,s.links.symm,s.len.symm,fun i=>(s.one i).symm,fun i=>(s.two i).symm⟩
theorem Alike.refl (A:Bk):Alike A A:=⟨rfl,rfl,rfl,rfl,fun _=>rfl,fun _=>rfl⟩
theorem ajO {B:Bk} (hB:B.alarm=0) {i h:Nat} (hi:i<B.pairs.length) (hh:(h:Int)<B.hours) (n:Int) (g j:Nat):
  (fD B i h (nT (iD B i h) n)).call true g j=if j=i/\g=h then B.call true g j+n else B.call true g j:=by
 have hp:=lG hi;have hL:=((gY hB).fine.calls i _ hp).1;have hh2:h<B.pairs[i].calls.length:=by omega
 rw[ahs hp rfl hh2];by_cases c:j=i/\g=h
 ·rw[if_pos c,if_pos c];obtain⟨rfl,rfl⟩:=c;rw[aht hp hh2];rfl
 ·rw[if_neg c,if_neg c]
theorem ajz {B:Bk} {i:Nat} {lim:Int}: ∀(f n:Nat),n<=iE B i lim f n/\iE B i lim f n<=n+f/\(∀k,n<=k->k<iE B i lim f n->BI B i lim k=false)/\(iE B i lim f n<n+f->BI B i lim (iE B i lim f n)=true)
 | 0,n=>⟨nR _,nR _,fun k h1 h2=>by unfold iE at h2;omega,fun h=>by unfold iE at h;omega⟩
 |f+1,n=>by
  unfold iE;by_cases c:BI B i lim n=true
  ·rw[if_pos c];exact⟨nR _,by omega,fun k h1 h2=>by omega,fun _=>c⟩
  ·rw[if_neg c];obtain⟨h1,h2,h3,h4⟩:=ajz (B:=B) (i:=i) (lim:=lim) f (n+1);refine⟨by omega,by omega,fun k h5 h6=> ?_,fun h=>h4 (by omega)⟩;by_cases e:k=n
   ·subst e;simpa using c
   ·exact h3 k (by omega) h6
end Go.Proofs.YtaikibfkggglgaaGreatDoor
