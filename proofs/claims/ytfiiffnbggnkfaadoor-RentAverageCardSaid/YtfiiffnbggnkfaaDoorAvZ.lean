/- RentAverage holds, for every input; no conditions. -/
import Derived.Test.YtfiiffnbggnkfaaDoorAv29
open Go.RowKit renaming Below→bX
open Go renaming Value→vL, World→wD
open Go.IntKind renaming i64→qi
open Go.Value renaming int→iN, slice→sL, pointer→pN
open Go.Obj renaming cells→cL
set_option maxRecDepth 100000
open Nat renaming le_refl→nR
open Go.Lib renaming hid→lH
open Go.RowKit.Below renaming refl→bR
open Go.Proofs.Tryd renaming prog→tP
open List renaming getElem?_eq_getElem→lG
open Array renaming getElem?_eq_some_iff→aS
open Go.World renaming block_lt_of_cell?→wBk
open Go.World renaming cell?_setCell_other→wO
open List renaming getD_eq_getElem?_getD→lD
set_option maxHeartbeats 4000000
namespace Go.Proofs.YtfiiffnbggnkfaaDoor
open Go.RowKit Go.Rent Go.Tp Go.Conc
theorem a4 (V:BkV) (B:Bk) (w:wD) (hs:iw w V B):Calls tP 4 #[V.val B] w fun e w'=>e= .returned (.bool (oO B&&decide (0<B.pairs.length)))/\bX w.heap.size w w':=by
 obtain⟨ta,la,pa,tc,lc,pc⟩:=V;have hb0:bX w.heap.size w (w.alloc (cL #[iN qi B.hours,sL ta B.towns.length tc,sL la B.links.length lc,sL pa B.pairs.length pc] 26)):=(bR _ _).alloc (nR _) _;have HC:=lH (c30 ⟨ta,la,pa,tc,lc,pc⟩ B _ (hs.below hb0 (nR _)));have HB0:=lH hb0;clear hs hb0;simp only[BkV.val] at *;go_enter Tryd.func4,Tryd.ntmps4
 go_wp2_with fail
 refine HC.out.mono ?_;rintro e w1 ⟨rfl,hb1⟩;have HB1:=lH (HB0.out.trans (hb1.mono (by simp)));have k3:w1.cell? ⟨w.heap.size,3,none⟩=some (sL pa B.pairs.length pc):=by rw[(ak hb1).1 _ _ (by simp)];go_simp
 clear hb1
 cases hf:oO B with
 |false=>
  go_wp2;go_ret;exact⟨by simp[hf],HB1.out⟩
 |true=>
  have HP:Hid (decide ((0 :Int)<(B.pairs.length:Int))=decide (0<B.pairs.length)):=lH (by simp);by_cases hp:0<B.pairs.length
  ·have hp2:(B.pairs.length:Int)>0:=by omega
   go_wp2;go_ret;exact⟨by simp[hf,hp],HB1.out⟩
  ·have hp2: ¬(B.pairs.length:Int)>0:=by omega
   go_wp2;go_ret;exact⟨by simp[hf,hp],HB1.out⟩
def ClR (n0:Nat) (x1 x2 p1 p2 y1 y2 r1 r2:Int) (i:Nat) (v:vL) (u:wD):Prop:=
 match i with
 | 0=>v= .agg #[iN qi x1,iN qi x2]
 | 1=>v= .agg #[iN qi p1,iN qi p2]
 | 2=>v= .agg #[iN qi y1,iN qi y2]
 | 3=>v= .agg #[iN qi r1,iN qi r2]
 |_=> ∃b,v= pN (some ⟨b,0,none⟩)/\n0<=b/\u.heap[b]? =some (cL #[iN qi 0,iN qi 0] 33)
theorem ClR.stab {n0:Nat} {x1 x2 p1 p2 y1 y2 r1 r2:Int}: ∀i v (u u':wD),ClR n0 x1 x2 p1 p2 y1 y2 r1 r2 i v u->bX u.heap.size u u'->ClR n0 x1 x2 p1 p2 y1 y2 r1 r2 i v u'
 | 0,_,_,_,h,_=>h
 | 1,_,_,_,h,_=>h
 | 2,_,_,_,h,_=>h
 | 3,_,_,_,h,_=>h
 |_+4,_,_,_,⟨b,e,h1,h2⟩,hb=>⟨b,e,h1,by rw[hb.block _ (aS.1 h2).1];exact h2⟩
theorem aqd {u:wD} {b:Nat} {x y:Int} (h:u.heap[b]? =some (cL #[iN qi x,iN qi y] 33)):u.cell? ⟨b,0,none⟩=some (iN qi x)/\u.cell? ⟨b,1,none⟩=some (iN qi y)/\u.frozen? ⟨b,0,none⟩=false/\u.frozen? ⟨b,1,none⟩=false:=by
 refine⟨?_, ?_, ?_, ?_⟩<;>simp[World.cell?,World.frozen?,h]
noncomputable def aqe:Code:=match Tryd.f10.body with
 |some (.seq _ (.seq _ (.seq c _)))=>c
 |_=> .skip
theorem aqs {Q:Exit->Act->wD->Prop} {a:Act} {W:wD} {b8 b9:Nat} (x1 x2 y1 y2:Int) (hsz:a.tmps.size=86) (h8:a.tmps[8]? =some (pN (some ⟨b8,0,none⟩))) (h9:a.tmps[9]? =some (pN (some ⟨b9,0,none⟩)))
  (c8:W.cell? ⟨b8,0,none⟩=some (iN qi x1)/\W.cell? ⟨b8,1,none⟩=some (iN qi x2)) (c9:W.cell? ⟨b9,0,none⟩=some (iN qi y1)/\W.cell? ⟨b9,1,none⟩=some (iN qi y2))
  (hK: ∀b1 b2 u,(u.cell? ⟨b1,0,none⟩=some (iN qi (Rw x1))/\u.cell? ⟨b1,1,none⟩=some (iN qi (Rw x2)))->(u.cell? ⟨b2,0,none⟩=some (iN qi (Rw y1))/\u.cell? ⟨b2,1,none⟩=some (iN qi (Rw y2)))->bX W.heap.size W u->
   Q .normal ((((((a.put (some 32) (.agg #[iN qi x1,iN qi x2])).put (some 33) (.agg #[iN qi (Rw x1),iN qi (Rw x2)])).put (some 34) (.agg #[iN qi y1,iN qi y2])).put (some 35) (.agg #[iN qi (Rw y1),iN qi (Rw y2)])).put (some 13) (pN (some ⟨b1,0,none⟩))).put (some 14) (pN (some ⟨b2,0,none⟩))) u):aqe.wp tP Q a W:=by
 have A1:=a30 x1 x2;have A2:=a30 y1 y2;generalize Rw x1=p1 at *;generalize Rw x2=p2 at *;generalize Rw y1=r1 at *;generalize Rw y2=r2 at *;simp only[aqe,Tryd.f10];refine aif 6 8 (fun u=>bX W.drew.heap.size W.drew u) (by kernel_rfl) ?_;have hW:bX W.heap.size W W.drew:=(bR _ _).drew;have c8':W.drew.cell? ⟨b8,0,none⟩=some (iN qi x1)/\W.drew.cell? ⟨b8,1,none⟩=some (iN qi x2):=c8;have c9':W.drew.cell? ⟨b9,0,none⟩=some (iN qi y1)/\W.drew.cell? ⟨b9,1,none⟩=some (iN qi y2):=c9;generalize W.drew=W1 at *;refine aqp [0,1,2,3,4,5] (ClR W1.heap.size x1 x2 p1 p2 y1 y2 r1 r2) (fun i=>decide (4<=i)) (n:=2) (by kernel_rfl) ClR.stab (fun i v u ha hr=> ?_) (fun u hu=>hu) ?_ ?_
 ·simp only[decide_eq_true_eq] at ha;obtain⟨i,rfl⟩: ∃j,i=j+4:=⟨i-4,by omega⟩;obtain⟨b,e,_,h2⟩:=hr;exact⟨b,e,(aS.1 h2).1⟩
 ·intro i hi o a' u ho hu hsz' hdf hdep hrest;simp only[List.mem_cons,List.not_mem_nil,or_false] at hi;obtain⟨d0,d1,d2,d3⟩:u.cell? ⟨b8,0,none⟩=some (iN qi x1)/\u.cell? ⟨b8,1,none⟩=some (iN qi x2)/\u.cell? ⟨b9,0,none⟩=some (iN qi y1)/\u.cell? ⟨b9,1,none⟩=some (iN qi y2):=
   ⟨by rw[(ak hu).1 _ _ (wBk _ _ c8'.1)];exact c8'.1,by rw[(ak hu).1 _ _ (wBk _ _ c8'.1)];exact c8'.2,by rw[(ak hu).1 _ _ (wBk _ _ c9'.1)];exact c9'.1,by rw[(ak hu).1 _ _ (wBk _ _ c9'.1)];exact c9'.2⟩
  have e8:=(hrest 8 (by decide)).trans h8;have e9:=(hrest 9 (by decide)).trans h9
  rcases hi with rfl |rfl |rfl |rfl |rfl |rfl
  ·obtain rfl:=Option.some.inj ho;exact ah0 (v:= .agg #[iN qi x1,iN qi x2]) (w':=u) (by simp[go_sem,e8,d0,d1]) ⟨rfl,bR _ _,fun h=>by cases h⟩
  ·obtain rfl:=Option.some.inj ho;have e0:a'.tmps[32]?.getD undef= .agg #[iN qi x1,iN qi x2]:=hdep 0 (by simp) (by kernel_rfl) 32 rfl (by rw[hsz];decide);exact ahW (f:=30) (args:= #[.agg #[iN qi x1,iN qi x2]]) (w':=u) (by simp[go_sem,e0]) ((A1 u).mono fun e u' ⟨e1,hb⟩=>⟨_,e1,rfl,hb,fun h=>by cases h⟩)
  ·obtain rfl:=Option.some.inj ho;exact ah0 (v:= .agg #[iN qi y1,iN qi y2]) (w':=u) (by simp[go_sem,e9,d2,d3]) ⟨rfl,bR _ _,fun h=>by cases h⟩
  ·obtain rfl:=Option.some.inj ho;have e0:a'.tmps[34]?.getD undef= .agg #[iN qi y1,iN qi y2]:=hdep 2 (by simp) (by kernel_rfl) 34 rfl (by rw[hsz];decide);exact ahW (f:=30) (args:= #[.agg #[iN qi y1,iN qi y2]]) (w':=u) (by simp[go_sem,e0]) ((A2 u).mono fun e u' ⟨e1,hb⟩=>⟨_,e1,rfl,hb,fun h=>by cases h⟩)
  ·obtain rfl:=Option.some.inj ho;exact ah0 (v:= pN (some ⟨u.heap.size,0,none⟩)) (w':=u.alloc (cL #[iN qi 0,iN qi 0] 33)) (by go_simp) ⟨⟨_,rfl,hu.size,(MapKept.heap_alloc u _).1⟩,(bR _ _).alloc (nR _) _,fun _=>⟨_,rfl,nR _⟩⟩
  ·obtain rfl:=Option.some.inj ho;exact ah0 (v:= pN (some ⟨u.heap.size,0,none⟩)) (w':=u.alloc (cL #[iN qi 0,iN qi 0] 33)) (by go_simp) ⟨⟨_,rfl,hu.size,(MapKept.heap_alloc u _).1⟩,(bR _ _).alloc (nR _) _,fun _=>⟨_,rfl,nR _⟩⟩
 ·intro vs u hu hR hA;have z0:vs 0= .agg #[iN qi x1,iN qi x2]:=hR 0 (by simp);have z1:vs 1= .agg #[iN qi p1,iN qi p2]:=hR 1 (by simp);have z2:vs 2= .agg #[iN qi y1,iN qi y2]:=hR 2 (by simp);have z3:vs 3= .agg #[iN qi r1,iN qi r2]:=hR 3 (by simp);obtain⟨b1,z4,l1,o1⟩: ∃b,vs 4= pN (some ⟨b,0,none⟩)/\W1.heap.size<=b/\u.heap[b]? =some (cL #[iN qi 0,iN qi 0] 33):=hR 4 (by simp);obtain⟨b2,z5,l2,o2⟩: ∃b,vs 5= pN (some ⟨b,0,none⟩)/\W1.heap.size<=b/\u.heap[b]? =some (cL #[iN qi 0,iN qi 0] 33):=hR 5 (by simp);have hne:b1≠b2:=fun e=>hA 4 (by simp) 5 (by simp) (by decide) rfl rfl (by rw[z4,z5,e]);obtain⟨m1,m2,m3,m4⟩:=aqd o1;obtain⟨m5,m6,m7,m8⟩:=aqd o2;simp only[alB,z0,z1,z2,z3,z4,z5]
  change LaS _ _ _ _ _ _ _ ((((((a.put (some 32) _).put (some 33) _).put (some 34) _).put (some 35) _).put (some 13) _).put (some 14) _) _
  have hq:=hK b1 b2 ((((u.setCell ⟨b1,0,none⟩ (iN qi p1)).setCell ⟨b1,1,none⟩ (iN qi p2)).setCell ⟨b2,0,none⟩ (iN qi r1)).setCell ⟨b2,1,none⟩ (iN qi r2)) ⟨by go_simp,by go_simp⟩ ⟨by go_simp,by go_simp⟩ (hW.trans (((((hu.setCell (p:=⟨b1,0,none⟩) l1 _).setCell (p:=⟨b1,1,none⟩) l1 _).setCell (p:=⟨b2,0,none⟩) l2 _).setCell (p:=⟨b2,1,none⟩) l2 _).mono hW.size));generalize hA':((((((a.put (some 32) (.agg #[iN qi x1,iN qi x2])).put (some 33) (.agg #[iN qi p1,iN qi p2])).put (some 34) (.agg #[iN qi y1,iN qi y2])).put (some 35) (.agg #[iN qi r1,iN qi r2])).put (some 13) (pN (some ⟨b1,0,none⟩))).put (some 14) (pN (some ⟨b2,0,none⟩)))=A at *;have f13:A.tmps[13]?.getD undef= pN (some ⟨b1,0,none⟩):=by rw[<-hA'];simp[Act.put,hsz]
  have f14:A.tmps[14]?.getD undef= pN (some ⟨b2,0,none⟩):=by rw[<-hA'];simp[Act.put,hsz]
  have f33:A.tmps[33]?.getD undef= .agg #[iN qi p1,iN qi p2]:=by rw[<-hA'];simp[Act.put,hsz]
  have f35:A.tmps[35]?.getD undef= .agg #[iN qi r1,iN qi r2]:=by rw[<-hA'];simp[Act.put,hsz]
  refine ahQ 6 (hc:=by kernel_rfl) (h:=ah1 (w':=(u.setCell ⟨b1,0,none⟩ (iN qi p1)).setCell ⟨b1,1,none⟩ (iN qi p2)) (by simp[go_sem,f13,f33,m1,m2,m3,m4]) ⟨fun h=>absurd rfl h.1, ?_⟩);refine ahQ 7 (hc:=by kernel_rfl) (h:=ah1 (w':=(((u.setCell ⟨b1,0,none⟩ (iN qi p1)).setCell ⟨b1,1,none⟩ (iN qi p2)).setCell ⟨b2,0,none⟩ (iN qi r1)).setCell ⟨b2,1,none⟩ (iN qi r2)) (by simp[go_sem,f14,f35,m5,m6,m7,m8]) ⟨fun h=>absurd rfl h.2, ?_⟩);exact ahZ hq (hr:=by kernel_rfl)
theorem a10 (V:BkV) (B:Bk) (q r x1 x2 y1 y2:Int) (w:wD) (hs:aB w V B) (hv:Vars w) (hA:B.alarm=0) (hne:0<B.pairs.length) (hq:0<=q/\q<=255) (hr:0<=r/\r<=255) (h1:x1<=y1) (h2:y1<=y2) (h3:y2<=x2):
  Calls tP 10 #[V.val B,.int .u8 q,.int .u8 r,.agg #[iN qi x1,iN qi x2],.agg #[iN qi y1,iN qi y2]] w fun e w'=>e= .returned (.bool true)/\bX w.heap.size w w':=by
 have hG:=gY hA;have hhh:=hG.fine.hours;have hll:=hG.fine.links;have hpl:=hs.np;obtain⟨i,hi⟩: ∃i:Nat,(i:Int)=q % (B.pairs.length:Int):=⟨(q % (B.pairs.length:Int)).toNat,Int.toNat_of_nonneg (Int.emod_nonneg q (show (B.pairs.length:Int)≠0 by omega))⟩;have hip:i<B.pairs.length:=by have:=Int.emod_lt_of_pos q (show (0 :Int)<(B.pairs.length:Int) by omega);omega
 obtain⟨h,hh⟩: ∃h:Nat,(h:Int)=r % B.hours:=⟨(r % B.hours).toNat,Int.toNat_of_nonneg (Int.emod_nonneg r (show B.hours≠0 by omega))⟩;have hhH:(h:Int)<B.hours:=by have:=Int.emod_lt_of_pos r (show (0 :Int)<B.hours by omega);omega
 have hm1:Int.tmod q (B.pairs.length:Int)=(i:Int):=by rw[hi];exact Int.tmod_eq_emod_of_nonneg hq.1
 have hm2:Int.tmod r B.hours=(h:Int):=by rw[hh];exact Int.tmod_eq_emod_of_nonneg hr.1
 have hwq:IntKind.wrap qi q=q:=IntWalk.i64_in _ (by omega);have hwr:IntKind.wrap qi r=r:=IntWalk.i64_in _ (by omega);have hnp:=hG.fine.pairs;have hwi:IntKind.wrap qi (i:Int)=(i:Int):=IntWalk.i64_in _ (by omega);have hwh:IntKind.wrap qi (h:Int)=(h:Int):=IntWalk.i64_in _ (by omega);have hz1: ¬B.pairs= []:=fun e=>by rw[e] at hne;simp at hne
 have hz2: ¬B.hours=0:=by omega
 obtain⟨ax,ay,hle⟩:=aqg hA hip hhH (x:=apW (x1,x2)) (y:=apW (y1,y2)) (ap7 (by show x1<=x2;omega)) (ap7 (by exact h2)) (apX h3);have t1: ¬Rw x1>Rw y1:=by have:=apX h1;omega
 have t2: ¬Rw y1>Rw y2:=by have:=apX h2;omega
 have t3: ¬Rw y2>Rw x2:=by have:=apX h3;omega
 simp only[apW] at ax ay hle;generalize hp1:Rw x1=p1 at *;generalize hp2:Rw x2=p2 at *;generalize hr1:Rw y1=r1 at *;generalize hr2:Rw y2=r2 at *;have hsx:=ag9 B i h (p1,p2);have hsy:=ag9 B i h (r1,r2);have HW1:Hid (∀u,bX w.heap.size w u->Calls tP 31 #[V.val B,iN qi (i:Int),iN qi (h:Int),.agg #[iN qi p1,iN qi p2]] u _):=lH fun u hu=>c43 V B i h p1 p2 u (hs.below hu (nR _)) hG hip hhH;have HW2:Hid (∀u,bX w.heap.size w u->Calls tP 31 #[V.val B,iN qi (i:Int),iN qi (h:Int),.agg #[iN qi r1,iN qi r2]] u _):=lH fun u hu=>c43 V B i h r1 r2 u (hs.below hu (nR _)) hG hip hhH;have HB1:Hid (∀V' u,bX w.heap.size w u->aB u V' (fD B i h (p1,p2))->Calls tP 15 #[V'.val (fD B i h (p1,p2))] u fun e u'=>(∃v,e= .returned (.tuple #[v,iN qi (aC (fD B i h (p1,p2)) aT).2,iN qi 0]))/\bX u.heap.size u u'):=lH fun V' u hu hb=>(c39 V' _ u hb (hv.below hu)).mono fun _ _ ⟨z1,_,z2⟩=>by obtain⟨fa,fc,e,_⟩:=z1 ax;exact⟨⟨_,e⟩,z2⟩
 have HB2:Hid (∀V' u,bX w.heap.size w u->aB u V' (fD B i h (r1,r2))->Calls tP 15 #[V'.val (fD B i h (r1,r2))] u fun e u'=>(∃v,e= .returned (.tuple #[v,iN qi (aC (fD B i h (r1,r2)) aT).2,iN qi 0]))/\bX u.heap.size u u'):=lH fun V' u hu hb=>(c39 V' _ u hb (hv.below hu)).mono fun _ _ ⟨z1,_,z2⟩=>by obtain⟨fa,fc,e,_⟩:=z1 ay;exact⟨⟨_,e⟩,z2⟩
 have HV1:Hid (∀V':BkV,V'.val (fD B i h (p1,p2))= .agg #[iN qi B.hours,sL V'.ta B.towns.length V'.tc,sL V'.la B.links.length V'.lc,sL V'.pa B.pairs.length V'.pc]):=lH fun V'=>by simp only[BkV.val,hsx];rfl
 have HV2:Hid (∀V':BkV,V'.val (fD B i h (r1,r2))= .agg #[iN qi B.hours,sL V'.ta B.towns.length V'.tc,sL V'.la B.links.length V'.lc,sL V'.pa B.pairs.length V'.pc]):=lH fun V'=>by simp only[BkV.val,hsy];rfl
 generalize (aC (fD B i h (p1,p2)) aT).2=n1 at *;generalize (aC (fD B i h (r1,r2)) aT).2=n2 at *;have HP:=lH (And.intro hp1 (And.intro hp2 (And.intro hr1 hr2)));have HT:=lH (And.intro t1 (And.intro t2 (And.intro t3 hle)));obtain⟨ta,la,pa,tc,lc,pc⟩:=V;simp only[BkV.val] at *;clear hs hv ax ay hG hi hh hsx hsy hq hr h1 h2 h3 t1 t2 t3 hle hll hnp hA hip hhH hne hp1 hp2 hr1 hr2;go_enter Tryd.func10,Tryd.ntmps10
 go_wp2_with fail
 refine aqr 13 13 (by kernel_rfl) ?_;refine an8 0 (.int .u8 q) ?_;refine an8 1 (iN qi q) ?_;refine an8 2 (pN (some ⟨w.heap.size,3,none⟩)) ?_;refine an8 3 (sL pa B.pairs.length pc) ?_;refine an8 4 (iN qi (B.pairs.length:Int)) ?_;refine an8 5 (iN qi (i:Int)) ?_;refine an8 6 (.int .u8 r) ?_;refine an8 7 (iN qi r) ?_;refine an8 8 (pN (some ⟨w.heap.size,0,none⟩)) ?_;refine an8 9 (iN qi B.hours) ?_;refine an8 10 (iN qi (h:Int)) ?_;refine an8 11 (iN qi (i:Int)) ?_;refine an8 12 (iN qi (h:Int)) ?_;refine ahZ ?_;go_simp;have c8:World.cell? (World.drew (((w.alloc (cL #[iN qi B.hours,sL ta B.towns.length tc,sL la B.links.length lc,sL pa B.pairs.length pc] 26)).alloc (cL #[iN qi x1,iN qi x2] 33)).alloc (cL #[iN qi y1,iN qi y2] 33))) ⟨w.heap.size+1,0,none⟩=some (iN qi x1)/\World.cell? (World.drew (((w.alloc (cL #[iN qi B.hours,sL ta B.towns.length tc,sL la B.links.length lc,sL pa B.pairs.length pc] 26)).alloc (cL #[iN qi x1,iN qi x2] 33)).alloc (cL #[iN qi y1,iN qi y2] 33))) ⟨w.heap.size+1,1,none⟩=some (iN qi x2):=by refine⟨?_, ?_⟩<;>go_simp
 have c9:World.cell? (World.drew (((w.alloc (cL #[iN qi B.hours,sL ta B.towns.length tc,sL la B.links.length lc,sL pa B.pairs.length pc] 26)).alloc (cL #[iN qi x1,iN qi x2] 33)).alloc (cL #[iN qi y1,iN qi y2] 33))) ⟨w.heap.size+2,0,none⟩=some (iN qi y1)/\World.cell? (World.drew (((w.alloc (cL #[iN qi B.hours,sL ta B.towns.length tc,sL la B.links.length lc,sL pa B.pairs.length pc] 26)).alloc (cL #[iN qi x1,iN qi x2] 33)).alloc (cL #[iN qi y1,iN qi y2] 33))) ⟨w.heap.size+2,1,none⟩=some (iN qi y2):=by refine⟨?_, ?_⟩<;>go_simp
 have C5:Hid (World.cell? (World.drew (((w.alloc (cL #[iN qi B.hours,sL ta B.towns.length tc,sL la B.links.length lc,sL pa B.pairs.length pc] 26)).alloc (cL #[iN qi x1,iN qi x2] 33)).alloc (cL #[iN qi y1,iN qi y2] 33))) ⟨w.heap.size,0,none⟩=some (iN qi B.hours)/\World.cell? (World.drew (((w.alloc (cL #[iN qi B.hours,sL ta B.towns.length tc,sL la B.links.length lc,sL pa B.pairs.length pc] 26)).alloc (cL #[iN qi x1,iN qi x2] 33)).alloc (cL #[iN qi y1,iN qi y2] 33))) ⟨w.heap.size,1,none⟩=some (sL ta B.towns.length tc)/\World.cell? (World.drew (((w.alloc (cL #[iN qi B.hours,sL ta B.towns.length tc,sL la B.links.length lc,sL pa B.pairs.length pc] 26)).alloc (cL #[iN qi x1,iN qi x2] 33)).alloc (cL #[iN qi y1,iN qi y2] 33))) ⟨w.heap.size,2,none⟩=some (sL la B.links.length lc)/\World.cell? (World.drew (((w.alloc (cL #[iN qi B.hours,sL ta B.towns.length tc,sL la B.links.length lc,sL pa B.pairs.length pc] 26)).alloc (cL #[iN qi x1,iN qi x2] 33)).alloc (cL #[iN qi y1,iN qi y2] 33))) ⟨w.heap.size,3,none⟩=some (sL pa B.pairs.length pc)):=lH (by
  refine⟨?_, ?_, ?_, ?_⟩<;>go_simp)
 have HB0:Hid (bX w.heap.size w (World.drew (((w.alloc (cL #[iN qi B.hours,sL ta B.towns.length tc,sL la B.links.length lc,sL pa B.pairs.length pc] 26)).alloc (cL #[iN qi x1,iN qi x2] 33)).alloc (cL #[iN qi y1,iN qi y2] 33)))):=lH ((((bR w.heap.size w).alloc (nR _) _).alloc (by simp) _).alloc (by simp;omega) _).drew
 go_wp2_with fail
 refine aqs (b8:=w.heap.size+1) (b9:=w.heap.size+2) x1 x2 y1 y2 rfl rfl rfl c8 c9 fun b1 b2 u k1 k2 hu=> ?_;obtain⟨hp1,hp2,hr1,hr2⟩:=HP.out;simp only[hp1,hp2,hr1,hr2] at k1 k2 ⊢;obtain⟨t1,t2,t3,hle⟩:=HT.out;have hlt:w.heap.size<(World.drew (((w.alloc (cL #[iN qi B.hours,sL ta B.towns.length tc,sL la B.links.length lc,sL pa B.pairs.length pc] 26)).alloc (cL #[iN qi x1,iN qi x2] 33)).alloc (cL #[iN qi y1,iN qi y2] 33))).heap.size:=wBk _ _ C5.out.1;have HU:Hid (bX w.heap.size w u):=lH (HB0.out.trans (hu.mono HB0.out.size));have d5:u.cell? ⟨w.heap.size,0,none⟩=some (iN qi B.hours)/\u.cell? ⟨w.heap.size,1,none⟩=some (sL ta B.towns.length tc)/\u.cell? ⟨w.heap.size,2,none⟩=some (sL la B.links.length lc)/\u.cell? ⟨w.heap.size,3,none⟩=some (sL pa B.pairs.length pc):=
  ⟨by rw[(ak hu).1 _ _ hlt];exact C5.out.1,by rw[(ak hu).1 _ _ hlt];exact C5.out.2.1,by rw[(ak hu).1 _ _ hlt];exact C5.out.2.2.1,by rw[(ak hu).1 _ _ hlt];exact C5.out.2.2.2⟩
 clear hu c8 c9 hlt;obtain⟨q1,q2⟩:=k1;obtain⟨s1,s2⟩:=k2;obtain⟨e0,e1,e2,e3⟩:=d5;simp only[Act.put,List.setIfInBounds_toArray,List.set]
 go_wp2_with fail
 refine(HW1.out u HU.out).mono ?_;rintro e u1 ⟨g,gc,rfl,hi1,_,hb1⟩;have HU1:Hid (bX w.heap.size w u1):=lH (HU.out.trans (hb1.mono HU.out.size));have C1:=HB1.out ⟨ta,la,some ⟨g,0,none⟩,tc,lc,gc⟩ u1 HU1.out hi1;rw[HV1.out] at C1;dsimp only;have hK: ∀o v,u.cell? ⟨w.heap.size,o,none⟩=some v->u1.cell? ⟨w.heap.size,o,none⟩=some v:=fun o v hc=>by rw[(ak hb1).1 _ _ (wBk _ _ hc)];exact hc
 have f0:=hK _ _ e0;have f1:=hK _ _ e1;have f2:=hK _ _ e2;have f3:=hK _ _ e3;have g1:u1.cell? ⟨b2,0,none⟩=some (iN qi r1):=by rw[(ak hb1).1 _ _ (wBk _ _ s1)];exact s1
 have g2:u1.cell? ⟨b2,1,none⟩=some (iN qi r2):=by rw[(ak hb1).1 _ _ (wBk _ _ s1)];exact s2
 clear hK hb1 hi1 e0 e1 e2 e3 q1 q2 s1 s2;have HC1:=lH C1;clear C1
 go_wp2_with fail
 refine HC1.out.mono ?_;rintro e u2 ⟨⟨v1,rfl⟩,hb2⟩;have HU2:Hid (bX w.heap.size w u2):=lH (HU1.out.trans (hb2.mono HU1.out.size));have hK: ∀o v,u1.cell? ⟨w.heap.size,o,none⟩=some v->u2.cell? ⟨w.heap.size,o,none⟩=some v:=fun o v hc=>by rw[(ak hb2).1 _ _ (wBk _ _ hc)];exact hc
 have e0:=hK _ _ f0;have e1:=hK _ _ f1;have e2:=hK _ _ f2;have e3:=hK _ _ f3;have s1:u2.cell? ⟨b2,0,none⟩=some (iN qi r1):=by rw[(ak hb2).1 _ _ (wBk _ _ g1)];exact g1
 have s2:u2.cell? ⟨b2,1,none⟩=some (iN qi r2):=by rw[(ak hb2).1 _ _ (wBk _ _ g1)];exact g2
 clear hK hb2 f0 f1 f2 f3 g1 g2
 go_wp2_with fail
 refine(HW2.out u2 HU2.out).mono ?_;rintro e u3 ⟨g',gc',rfl,hi3,_,hb3⟩;have HU3:Hid (bX w.heap.size w u3):=lH (HU2.out.trans (hb3.mono HU2.out.size));have C2:=HB2.out ⟨ta,la,some ⟨g',0,none⟩,tc,lc,gc'⟩ u3 HU3.out hi3;rw[HV2.out] at C2;dsimp only;have HC2:=lH C2;clear C2 hb3 hi3 e0 e1 e2 e3 s1 s2
 go_wp2_with fail
 refine HC2.out.mono ?_;rintro e u4 ⟨⟨v2,rfl⟩,hb4⟩;have HU4:Hid (bX w.heap.size w u4):=lH (HU3.out.trans (hb4.mono HU3.out.size));clear hb4;go_wp2;go_ret;exact⟨rfl,HU4.out⟩
section
variable {u:wD} {b1:Nat} {V:BkV} {B:Bk} {xs cs:List Int} {xa ca:Option Addr} {xc cc:Nat}
end
section
variable {f:FuncId} {N n d s t:Nat} {a:Act} {w:wD} {l:List (Nat×vL)} {ops:Array Oper} {listed:Array Bool} {i:Nat} {rest:List Nat} {kk:List Item} {R:vL->wD->Prop} {o:Oper}
end
noncomputable def apR:Code:=Tryd.f3.body.getD .skip
noncomputable def ap1:Code:=match apR with
 | .seq _ (.seq (.seq _ c) _)=>c
 |_=> .skip
noncomputable def apS:Code:=match apR with
 | .seq _ (.seq _ c)=>c
 |_=> .skip
noncomputable def apV:Code:=match apS with
 | .seq (.seq _ (.block _ (.loop c))) _=>c
 |_=> .skip
noncomputable def av8:Code:=match apS with
 | .seq _ c=>c
 |_=> .skip
noncomputable def ap2:Code:=match av8 with
 | .seq _ (.seq _ (.seq _ (.seq _ (.seq _ (.seq _ c)))))=>c
 |_=> .skip
def apT (B:Bk) (n:Nat):Bool:= !(oO B&&decide (0<B.pairs.length))||decide (n=0)||decide (4<n)
theorem aqt (V:BkV) (B:Bk) (xa:Option Addr) (n xc:Nat) (q m p r:Int) (w:wD) (hs:iw w V B) (hn:n<=maxLen):
  Comes tP [.code apR] (fun it a u=> ∃b6,it= [.code ap1,.code apS]/\Sl a 96 ((33,.bool (apT B n)):: [(1,sL xa n xc),(2,.int .u8 q),(3,.int .u16 m),(4,.int .u8 p),(5,.int .u8 r),(6,pN (some ⟨b6,0,none⟩))])/\(u.cell? ⟨b6,0,none⟩=some (iN qi B.hours)/\u.cell? ⟨b6,1,none⟩=some (sL V.ta B.towns.length V.tc)/\u.cell? ⟨b6,2,none⟩=some (sL V.la B.links.length V.lc)/\u.cell? ⟨b6,3,none⟩=some (sL V.pa B.pairs.length V.pc))/\bX w.heap.size w u)
   ⟨(V.val B:: sL xa n xc:: .int .u8 q:: .int .u16 m:: .int .u8 p:: .int .u8 r::List.replicate 90 undef).toArray,[]⟩ w:=by
 obtain⟨ta,la,pa,tc,lc,pc⟩:=V;have hb0:bX w.heap.size w (w.alloc (cL #[iN qi B.hours,sL ta B.towns.length tc,sL la B.links.length lc,sL pa B.pairs.length pc] 26)):=(bR _ _).alloc (nR _) _;have HC:=lH (a4 ⟨ta,la,pa,tc,lc,pc⟩ B _ (hs.below hb0 (nR _)));have HB0:=lH hb0;have HN:=lH hn;clear hs hb0 hn;simp only[List.replicate,BkV.val];simp only[apR,Tryd.f3,Option.getD_some];refine aK (bg ?_);go_wp2;refine aK (aK (bg ?_))
 go_wp2_with fail
 refine HC.out.mono ?_;rintro e w1 ⟨rfl,hb1⟩;have HB1:=lH (HB0.out.trans (hb1.mono (by simp)));have k0:w1.cell? ⟨w.heap.size,0,none⟩=some (iN qi B.hours):=by rw[(ak hb1).1 _ _ (by simp)];go_simp
 have k1:w1.cell? ⟨w.heap.size,1,none⟩=some (sL ta B.towns.length tc):=by rw[(ak hb1).1 _ _ (by simp)];go_simp
 have k2:w1.cell? ⟨w.heap.size,2,none⟩=some (sL la B.links.length lc):=by rw[(ak hb1).1 _ _ (by simp)];go_simp
 have k3:w1.cell? ⟨w.heap.size,3,none⟩=some (sL pa B.pairs.length pc):=by rw[(ak hb1).1 _ _ (by simp)];go_simp
 clear hb1;have HS:Hid (apT B n=(!(oO B&&decide (0<B.pairs.length))||decide (n=0)||decide (4<n))):=lH rfl;generalize (oO B&&decide (0<B.pairs.length))=ask at *
 cases ask with
 |false=>
  have HE:Hid (apT B n=true):=lH (by rw[HS.out];rfl);clear HS;go_wp2;exact dO ⟨w.heap.size,rfl,⟨rfl,rfl,congrArg Value.bool HE.out.symm,rfl,rfl,rfl,rfl,rfl,rfl,trivial⟩,⟨k0,k1,k2,k3⟩,HB1.out⟩
 |true=>
  by_cases h0:n=0
  ·subst h0;have HE:Hid (apT B 0=true):=lH (by rw[HS.out];rfl);clear HS;go_wp2;exact dO ⟨w.heap.size,rfl,⟨rfl,rfl,congrArg Value.bool HE.out.symm,rfl,rfl,rfl,rfl,rfl,rfl,trivial⟩,⟨k0,k1,k2,k3⟩,HB1.out⟩
  ·by_cases h4:(n:Int)>4
   ·have HE:Hid (apT B n=true):=lH (by rw[HS.out,show decide (4<n)=true from decide_eq_true (by omega)];simp);clear HS;go_wp2;exact dO ⟨w.heap.size,rfl,⟨rfl,rfl,congrArg Value.bool HE.out.symm,rfl,rfl,rfl,rfl,rfl,rfl,trivial⟩,⟨k0,k1,k2,k3⟩,HB1.out⟩
   ·have HE:Hid (apT B n=false):=lH (by rw[HS.out,show decide (4<n)=false from decide_eq_false (by omega),show decide (n=0)=false from decide_eq_false h0];rfl);clear HS;go_wp2;exact dO ⟨w.heap.size,rfl,⟨rfl,rfl,congrArg Value.bool (by rw[HE.out];simp;omega),rfl,rfl,rfl,rfl,rfl,rfl,trivial⟩,⟨k0,k1,k2,k3⟩,HB1.out⟩
section
variable {u:wD} {b1:Nat} {V:BkV} {B:Bk}
theorem aqf (x y lo hi:Int):iK tP 6 #[.agg #[iN qi x,iN qi y],iN qi lo,iN qi hi] u fun v w'=>v= .bool (insB (x,y) lo hi)/\Kept u.heap.size u w':=
 acs (X:=fun v _=>v= .bool (insB (x,y) lo hi)) (fun _ _ _ h _=>h) fun _=>(a6 x y lo hi _).mono fun _ _ ⟨e,hb⟩=>⟨_,e,rfl,hb⟩
theorem aqu (q r x1 x2 y1 y2:Int) (hB:dL u b1 V B) (hA:B.alarm=0) (hne:0<B.pairs.length) (hq:0<=q/\q<=255) (hr:0<=r/\r<=255) (h1:x1<=y1) (h2:y1<=y2) (h3:y2<=x2):
  iK tP 10 #[V.val B,.int .u8 q,.int .u8 r,.agg #[iN qi x1,iN qi x2],.agg #[iN qi y1,iN qi y2]] u fun v w'=>v= .bool true/\Kept u.heap.size u w':=
 acs (X:=fun v _=>v= .bool true) (fun _ _ _ h _=>h) fun _=>(a10 V B q r x1 x2 y1 y2 _ (hB.kept jD).book (hB.kept jD).vars hA hne hq hr h1 h2 h3).mono fun _ _ ⟨e,hb⟩=>⟨_,e,rfl,hb⟩
end
theorem aqv {w0:wD} {V:BkV} {B:Bk} {l:List (Int×Int)} {xa:Option Addr} {xc b6:Nat} {q m p r:Int} (hl:l.length<=4): ∀(n k:Nat) (a:Act) (w:wD),k+n=l.length->dL w b6 V B->SlB w xa l->Kept w0.heap.size w0 w->(∀x∈l.take k,insB x 0 9=true)->Sl a 96 [(13,iN qi (k:Int)),(1,sL xa l.length xc),(2,.int .u8 q),(3,.int .u16 m),(4,.int .u8 p),(5,.int .u8 r),(6,pN (some ⟨b6,0,none⟩))]->
    (∀a' w',dL w' b6 V B->SlB w' xa l->Kept w0.heap.size w0 w'->(∀x∈l,insB x 0 9=true)->Sl a' 96 [(1,sL xa l.length xc),(2,.int .u8 q),(3,.int .u16 m),(4,.int .u8 p),(5,.int .u8 r),(6,pN (some ⟨b6,0,none⟩))]->GL tP 3 [.code av8] (mY w0) a' w')->GL tP 3 [.code apV,.inLoop apV,.inBlock 0,.code av8] (mY w0) a w:=by
  intro n
  induction n with
  |zero=>
    intro k a w hm hB hx hkw hin hS K;obtain rfl:k=l.length:=by omega
    have hkh: ¬(l.length:Int)<(l.length:Int):=by omega
    rw[List.take_length] at hin;obtain⟨cl,hcl⟩: ∃c,c=apV:=⟨_,rfl⟩;obtain⟨c8,hc8⟩: ∃c,c=av8:=⟨_,rfl⟩;rw[<-hcl,<-hc8];refine ac2 hcl ?_;simp only[apV,apS,apR,Tryd.f3,Option.getD_some];refine kV good (kV good (oJ good ?_));refine aU (iN qi (l.length:Int)) hS (fun a hS=> ?_);refine aU (sL xa l.length xc) hS (fun a hS=> ?_);refine aU (iN qi (l.length:Int)) hS (fun a hS=> ?_);refine aU (.bool false) hS (fun a hS=> ?_) (hr:=by intro τ;have h:=(‹Sl _ _ _›).2.2;simp only[SlA] at h;simp[go_sem,h,hkh]);refine lY good ?_;refine sO good false (by rw[ev];exact hS.2.2.1) ?_;rw[if_neg (by decide)];refine YE good (k':= [.code c8]) rfl ?_;have hS:Sl a 96 [(1,sL xa l.length xc),(2,.int .u8 q),(3,.int .u16 m),(4,.int .u8 p),(5,.int .u8 r),(6,pN (some ⟨b6,0,none⟩))]:=⟨hS.1,hS.2.1,hS.2.2.2.2.2.2.2.1,hS.2.2.2.2.2.2.2.2.1,hS.2.2.2.2.2.2.2.2.2.1,hS.2.2.2.2.2.2.2.2.2.2.1,hS.2.2.2.2.2.2.2.2.2.2.2.1,hS.2.2.2.2.2.2.2.2.2.2.2.2.1,trivial⟩;rw[hc8];exact K a w hB hx hkw hin hS
  |succ n ih=>
    intro k a w hm hB hx hkw hin hS K;have hlt:k<l.length:=by omega
    have hkh:(k:Int)<(l.length:Int):=by omega
    obtain⟨cl,hcl⟩: ∃c,c=apV:=⟨_,rfl⟩;obtain⟨c8,hc8⟩: ∃c,c=av8:=⟨_,rfl⟩;rw[<-hcl,<-hc8];refine ac2 hcl ?_;simp only[apV,apS,apR,Tryd.f3,Option.getD_some];refine kV good (kV good (oJ good ?_));refine aU (iN qi (k:Int)) hS (fun a hS=> ?_);refine aU (sL xa l.length xc) hS (fun a hS=> ?_);refine aU (iN qi (l.length:Int)) hS (fun a hS=> ?_);refine aU (.bool true) hS (fun a hS=> ?_) (hr:=by intro τ;have h:=(‹Sl _ _ _›).2.2;simp only[SlA] at h;simp[go_sem,h,hkh]);refine lY good ?_;refine sO good true (by rw[ev];exact hS.2.2.1) ?_;rw[if_pos rfl];refine LM good ?_;have hS:Sl a 96 [(13,iN qi (k:Int)),(1,sL xa l.length xc),(2,.int .u8 q),(3,.int .u16 m),(4,.int .u8 p),(5,.int .u8 r),(6,pN (some ⟨b6,0,none⟩))]:=⟨hS.1,hS.2.1,hS.2.2.2.2.2.2.1,hS.2.2.2.2.2.2.2.1,hS.2.2.2.2.2.2.2.2.1,hS.2.2.2.2.2.2.2.2.2.1,hS.2.2.2.2.2.2.2.2.2.2.1,hS.2.2.2.2.2.2.2.2.2.2.2.1,hS.2.2.2.2.2.2.2.2.2.2.2.2.1,trivial⟩;refine kV good (LP good (kV good (oJ good ?_)));obtain⟨tb,tofs,exa,h1,h2⟩:=Nl hx hlt;have eb:bnd l k=l[k]:=by unfold bnd;rw[lD,lG hlt];rfl
    have htk:l.take (k+1)=l.take k++ [bnd l k]:=by rw[List.take_succ_eq_append_getElem hlt,eb]
    generalize bnd l k=x at *;obtain⟨x,y⟩:=x;simp only at h1 h2;refine aU (sL xa l.length xc) hS (fun a hS=> ?_);refine aU (iN qi (k:Int)) hS (fun a hS=> ?_);refine aU (pN (some ⟨tb,tofs+k*2,none⟩)) hS (fun a hS=> ?_) (hr:=by intro τ;have h:=(‹Sl _ _ _›).2.2;simp only[SlA] at h;simp[go_sem,h,exa,hlt]);refine aU (.agg #[iN qi x,iN qi y]) hS (fun a hS=> ?_) (hr:=by intro τ;have h:=(‹Sl _ _ _›).2.2;simp only[SlA] at h;simp[go_sem,h,bV,h1,h2])
    cases hi:insB (x,y) 0 9
    · refine pz (aqf x y 0 9) hS ?_
      rintro a v u ⟨rfl,hk⟩ hS;rw[hi] at hS;have hB:=hB.kept hk;have hx:=hx.kept hk;have hkw:=hkw.trans (hk.mono hkw.size);refine aU (.bool true) hS (fun a hS=> ?_);refine lY good ?_;refine sO good true (by rw[ev];exact hS.2.2.1) ?_;rw[if_pos rfl];refine kV good (oJ good ?_);exact Ob (N:=96) (i:=0) FI Tryd.func3 rfl rfl rfl rfl rfl rfl rfl rfl rfl (by decide) (by decide) (by decide) ⟨hS.1,hS.2.1,trivial⟩ hB.vars hkw
    · refine pz (aqf x y 0 9) hS ?_
      rintro a v u ⟨rfl,hk⟩ hS;rw[hi] at hS;have hB:=hB.kept hk;have hx:=hx.kept hk;have hkw:=hkw.trans (hk.mono hkw.size);refine aU (.bool false) hS (fun a hS=> ?_);refine lY good ?_;refine sO good false (by rw[ev];exact hS.2.2.1) ?_;rw[if_neg (by decide)];refine LM good ?_;have hS:Sl a 96 [(13,iN qi (k:Int)),(1,sL xa l.length xc),(2,.int .u8 q),(3,.int .u16 m),(4,.int .u8 p),(5,.int .u8 r),(6,pN (some ⟨b6,0,none⟩))]:=⟨hS.1,hS.2.1,hS.2.2.2.2.2.2.2.2.1,hS.2.2.2.2.2.2.2.2.2.1,hS.2.2.2.2.2.2.2.2.2.2.1,hS.2.2.2.2.2.2.2.2.2.2.2.1,hS.2.2.2.2.2.2.2.2.2.2.2.2.1,hS.2.2.2.2.2.2.2.2.2.2.2.2.2.1,hS.2.2.2.2.2.2.2.2.2.2.2.2.2.2.1,trivial⟩;refine YB good (oJ good ?_);refine aU (iN qi (k:Int)) hS (fun a hS=> ?_);refine ac1 hS (k:=k) (by omega) (fun a hS=> ?_) (hs:=hS.2.2.1);have hS:Sl a 96 [(40,iN qi ((k+1 :Nat):Int)),(39,iN qi (k:Int)),(1,sL xa l.length xc),(2,.int .u8 q),(3,.int .u16 m),(4,.int .u8 p),(5,.int .u8 r),(6,pN (some ⟨b6,0,none⟩))]:=⟨hS.1,hS.2.1,hS.2.2.1,hS.2.2.2.1,hS.2.2.2.2.2.1,hS.2.2.2.2.2.2.1,hS.2.2.2.2.2.2.2.1,hS.2.2.2.2.2.2.2.2.1,hS.2.2.2.2.2.2.2.2.2.1,hS.2.2.2.2.2.2.2.2.2.2.1,trivial⟩;refine aU (iN qi ((k+1 :Nat):Int)) hS (fun a hS=> ?_);refine lY good (YD good ?_);have hS:Sl a 96 [(13,iN qi ((k+1 :Nat):Int)),(1,sL xa l.length xc),(2,.int .u8 q),(3,.int .u16 m),(4,.int .u8 p),(5,.int .u8 r),(6,pN (some ⟨b6,0,none⟩))]:=⟨hS.1,hS.2.1,hS.2.2.1,hS.2.2.2.2.2.1,hS.2.2.2.2.2.2.1,hS.2.2.2.2.2.2.2.1,hS.2.2.2.2.2.2.2.2.1,hS.2.2.2.2.2.2.2.2.2.1,hS.2.2.2.2.2.2.2.2.2.2.1,trivial⟩;have hin2: ∀z∈l.take (k+1),insB z 0 9=true:=fun z hz=>by
          rw[htk] at hz
          rcases List.mem_append.1 hz with hz |hz
          · exact hin z hz
          · rw[List.mem_singleton] at hz;subst hz;exact hi
      rw[hcl,hc8];exact ih (k+1) a _ (by omega) hB hx hkw hin2 hS K
def aoR (u:wD) (b:Nat) (x:Int×Int):Prop:=u.cell? ⟨b,0,none⟩=some (iN qi x.1)/\u.cell? ⟨b,1,none⟩=some (iN qi x.2)
theorem aoR.kept {u u':wD} {b:Nat} {x:Int×Int} (h:aoR u b x) (hk:Kept u.heap.size u u'):aoR u' b x:=⟨dV hk (nR _) h.1,dV hk (nR _) h.2⟩
def AvQ (w:wD) (l:List (Int×Int)) (p r:Int) (b6:Nat) (it:List Item) (a:Act) (u:wD):Prop:=
 ∃b17 b19 k v,k<l.length/\(bnd l k).1<=v/\v<=(bnd l k).2/\it= [.code ap2]/\Sl a 96 [(17,pN (some ⟨b17,0,none⟩)),(18,iN qi 0),(19,pN (some ⟨b19,0,none⟩)),(20,iN qi 0),(4,.int .u8 p),(5,.int .u8 r),(6,pN (some ⟨b6,0,none⟩))]/\aoR u b17 (WO l)/\aoR u b19 (WO (l.set k (v,v)))/\bX w.heap.size w u
theorem aqw {u:wD} {g k:Nat} {l:List (Int×Int)} {a b:Int} (hc: ∀(j:Nat) (x:Int×Int),l[j]? =some x->u.cell? ⟨g,j*2,none⟩=some (iN qi x.1)/\u.cell? ⟨g,j*2+1,none⟩=some (iN qi x.2)) (hk:k<l.length):
  SlB ((u.setCell ⟨g,k*2,none⟩ (iN qi a)).setCell ⟨g,k*2+1,none⟩ (iN qi b)) (some ⟨g,0,none⟩) (l.set k (a,b)):=by
 intro j x hx;have hoth: ∀o,o≠k*2->o≠k*2+1->((u.setCell ⟨g,k*2,none⟩ (iN qi a)).setCell ⟨g,k*2+1,none⟩ (iN qi b)).cell? ⟨g,o,none⟩=u.cell? ⟨g,o,none⟩:=fun o h1 h2=>by
  rw[wO (a:=⟨g,k*2+1,none⟩) (b:=⟨g,o,none⟩) (h:=fun e=>h2 (congrArg Addr.off e).symm),wO (a:=⟨g,k*2,none⟩) (b:=⟨g,o,none⟩) (h:=fun e=>h1 (congrArg Addr.off e).symm)]
 refine⟨g,0,rfl, ?_⟩;rw[Nat.zero_add];by_cases e:j=k
 ·subst e;obtain⟨c0,c1⟩:=hc j _ (lG hk);rw[List.getElem?_set_self hk] at hx
  cases hx
  have n1:(⟨g,j*2+1,none⟩:Addr)≠⟨g,j*2,none⟩:=fun e=>by have:=congrArg Addr.off e;simp at this
  refine⟨?_,World.cell?_setCell_same _ _ _ (u:= iN qi (l[j]).2) ?_⟩
  ·rw[wO (h:=n1)];exact World.cell?_setCell_same _ _ _ c0
  ·rw[wO (h:=Ne.symm n1)];exact c1
 ·rw[List.getElem?_set_ne (Ne.symm e)] at hx;obtain⟨c0,c1⟩:=hc j x hx;exact⟨(hoth _ (by omega) (by omega)).trans c0,(hoth _ (by omega) (by omega)).trans c1⟩
theorem aqx {l:List (Int×Int)} {xa:Option Addr} {xc b6:Nat} {q m p r:Int} (hl:1<=l.length/\l.length<=4) (hin: ∀x∈l,0<=x.1/\x.1<=x.2/\x.2<=9) (hq:0<=q/\q<=255) (hm:0<=m/\m<=65535) (a:Act) (w:wD) (hx:SlB w xa l) (hS:Sl a 96 [(1,sL xa l.length xc),(2,.int .u8 q),(3,.int .u16 m),(4,.int .u8 p),(5,.int .u8 r),(6,pN (some ⟨b6,0,none⟩))]):
  Comes tP [.code av8] (AvQ w l p r b6) a w:=by
 obtain⟨i0,hi,hz0,hz1,hz2⟩:=info_parts MG;obtain⟨k,hk⟩: ∃k:Nat,(k:Int)=q % (l.length:Int):=⟨(q % (l.length:Int)).toNat,Int.toNat_of_nonneg (Int.emod_nonneg q (show (l.length:Int)≠0 by omega))⟩;have hkl:k<l.length:=by have:=Int.emod_lt_of_pos q (show (0 :Int)<(l.length:Int) by omega);omega
 have hm1:Int.tmod q (l.length:Int)=(k:Int):=by rw[hk];exact Int.tmod_eq_emod_of_nonneg hq.1
 have hwq:IntKind.wrap qi q=q:=IntWalk.i64_in _ (by omega);have hwm:IntKind.wrap qi m=m:=IntWalk.i64_in _ (by omega);have hwk:IntKind.wrap qi (k:Int)=(k:Int):=IntWalk.i64_in _ (by omega);have hz: ¬l= []:=by rintro rfl;simp at hl
 have eb:bnd l k=l[k]:=by unfold bnd;rw[lD,lG hkl];rfl
 have hok:=hin _ (List.getElem_mem hkl);rw[<-eb] at hok;obtain⟨tb,tofs,rfl,h1,h2⟩:=Nl hx hkl;have HQ:Hid (∀it a u,(∃b17 b19 v,(bnd l k).1<=v/\v<=(bnd l k).2/\it= [.code ap2]/\Sl a 96 [(17,pN (some ⟨b17,0,none⟩)),(18,.int qi 0),(19,pN (some ⟨b19,0,none⟩)),(20,.int qi 0),(4,.int .u8 p),(5,.int .u8 r),(6,pN (some ⟨b6,0,none⟩))]/\aoR u b17 (WO l)/\aoR u b19 (WO (l.set k (v,v)))/\bX w.heap.size w u)->AvQ w l p r b6 it a u):=lH fun it a u ⟨b17,b19,v,z1,z2,z3,z4,z5,z6,z7⟩=>⟨b17,b19,k,v,hkl,z1,z2,z3,z4,z5,z6,z7⟩;have HX:=lH hx;have HIN:=lH hin;have HL:=lH hl;have HKL:=lH hkl;have HNEWS:Hid (∀u,bX w.heap.size w u-> ∀(j:Nat) (x:vL),(duo l)[j]? =some x->u.cell? ((⟨tb,tofs,none⟩:Addr).add j)=some x):=lH fun u hu=>Ny (hx.below hu (nR _)) ⟨tb,tofs,none⟩ rfl;have H7:Hid (∀u,Calls tP 7 #[.agg #[.int qi (bnd l k).1,.int qi (bnd l k).2],.int qi m] u _):=lH fun u=>a7 _ _ m hok hm u;generalize hxe:bnd l k=x at *;obtain⟨x,y⟩:=x;simp only at h1 h2 H7 HQ;obtain⟨t,rfl,hT⟩:=hS.lit;simp only[SlT] at hT;obtain⟨s1,s2,s3,s4,s5,s6,_⟩:=hT;simp only[up,Nat.reduceAdd,s1,s2,s3,s4,s5,s6];have HXE:=lH eb.symm;clear s1 s2 s3 hS hk hx hin hl eb hok hq hm hxe;have hkl2:(k:Int)<(l.length:Int):=by have:=HKL.out;omega
 simp only[av8,apS,apR,Tryd.f3,Option.getD_some];refine aK (bg ?_);go_wp2;refine aK (bg ?_)
 go_wp2_with fail
 refine(H7.out _).mono ?_;rintro e w1 ⟨⟨v,rfl,hv1,hv2⟩,hb1⟩;have HB1:=lH hb1;have HV:=lH (And.intro hv1 hv2);clear hb1 hv1 hv2;go_wp2;refine aK (bg ?_);have hown:(w1.alloc (cL #[] 33)).ownsRow w.heap.size 33 2 (sL (some ⟨w1.heap.size,0,none⟩) 0 0) 0 []:=⟨rfl,.inr ⟨w1.heap.size,0,#[],rfl,HB1.out.size,(MapKept.heap_alloc w1 _).1,nR _,Nat.zero_le _,rfl,rfl⟩⟩;have Hown:=lH hown;have HB2:=lH (HB1.out.alloc HB1.out.size (cL #[] 33));clear hown
 go_wp2_with (at_builtin;refine wpList_append_own _ rfl _ _ 27 rfl w.heap.size 33 i0 (.agg #[iN qi 0,iN qi 0]) 2 16 Tryd.underlying27 hi hz0 hz1 hz2 rfl (by decide) _ _ _ rfl Hown.out ⟨tb,tofs,none⟩ l.length xc (duo l) rfl (EW l) (HNEWS.out _ HB2.out) (EX l) (by have:=HL.out;unfold maxLen;omega) (by have:=HL.out;omega) (by have:=HB2.out.size;exact this) ?_;intro v2 w2 hown2 hgrow _)
 have hb2:bX w.heap.size w w2:=HB2.out.grown hgrow HB2.out.size (fun k hk=>by cases hk;exact HB1.out.size);rw[List.nil_append,Nat.zero_add] at hown2;obtain⟨g,cap,rfl,hg,hgz,hgc,hgf,_,_⟩:=ru hown2 HL.out.1;have HG:=lH fun(j:Nat) (z:Int×Int) (hz:l[j]? =some z)=>And.intro (hgc _ _ (oV l j z hz).1) (hgc _ _ (oV l j z hz).2);have HGF:=lH hgf;have HGL:=lH (And.intro hg hgz);have HB3:=lH hb2;clear hown2 hgrow hb2 hgc hgf hg hgz;go_wp2;refine aK (bg ?_)
 go_wp2_with fail
 refine(ajA _ _ _).mono ?_;rintro e w3 ⟨rfl,hb3⟩;have HG2:Hid (∀(j:Nat) (z:Int×Int),l[j]? =some z->w3.cell? ⟨g,j*2,none⟩=some (iN qi z.1)/\w3.cell? ⟨g,j*2+1,none⟩=some (iN qi z.2)):=lH fun j z hz=>⟨by rw[(ak hb3).1 _ _ HGL.out.2];exact(HG.out j z hz).1,by rw[(ak hb3).1 _ _ HGL.out.2];exact(HG.out j z hz).2⟩;obtain⟨m0,m1⟩:=HG2.out k _ (lG HKL.out);have f0:w3.frozen? ⟨g,k*2,none⟩=false:=by rw[(ak hb3).2 _ _ HGL.out.2];exact HGF.out _
 have f1:w3.frozen? ⟨g,k*2+1,none⟩=false:=by rw[(ak hb3).2 _ _ HGL.out.2];exact HGF.out _
 have HB4:=lH (HB3.out.trans (hb3.mono HB3.out.size));have HS4:=lH (aqw (a:=v) (b:=v) HG2.out HKL.out);have HB5:=lH ((HB4.out.setCell (p:=⟨g,k*2,none⟩) HGL.out.1 (iN qi v)).setCell (p:=⟨g,k*2+1,none⟩) HGL.out.1 (iN qi v));clear hb3;go_wp2;refine aK (bg ?_);generalize (w3.setCell ⟨g,k*2,none⟩ (iN qi v)).setCell ⟨g,k*2+1,none⟩ (iN qi v)=w4 at *;clear m0 m1 f0 f1;have C1:=lH (a9 l (some ⟨tb,tofs,none⟩) xc w4 (HX.out.below HB5.out (nR _)) HL.out HIN.out)
 go_wp2_with fail
 refine C1.out.mono ?_;rintro e w5 ⟨rfl,hb5⟩;have HB6:=lH (HB5.out.trans (hb5.mono HB5.out.size));have HS6:=lH (HS4.out.below hb5 (nR _));clear hb5;go_wp2;refine aK (bg ?_);have HB7:=lH (HB6.out.alloc HB6.out.size (cL #[iN qi (WO l).1,iN qi (WO l).2] 33));have hset: ∀z∈l.set k (v,v),0<=z.1/\z.1<=z.2/\z.2<=9:=fun z hz=>by
  rcases List.mem_or_eq_of_mem_set hz with hz |rfl
  ·exact HIN.out z hz
  ·have h3:=HIN.out (x,y) (by rw[<-HXE.out];exact List.getElem_mem HKL.out);have h4:=HV.out;simp only at h3 ⊢;omega
 have C2:=a9 (l.set k (v,v)) (some ⟨g,0,none⟩) cap (w5.alloc (cL #[iN qi (WO l).1,iN qi (WO l).2] 33)) (HS6.out.below ((bR _ _).alloc (nR _) _) (nR _)) (by rw[List.length_set];exact HL.out) hset;rw[List.length_set] at C2;have HC2:=lH C2;clear C2 hset
 go_wp2_with fail
 refine HC2.out.mono ?_;rintro e w7 ⟨rfl,hb7⟩;have HB8:=lH (HB7.out.trans (hb7.mono HB7.out.size));have HA1:Hid (aoR w7 w5.heap.size (WO l)):=lH ⟨by rw[(ak hb7).1 _ _ (by simp)];go_simp,by rw[(ak hb7).1 _ _ (by simp)];go_simp⟩;have HLT:Hid (w5.heap.size<w7.heap.size):=lH (by have:=hb7.size;simp at this;omega);clear hb7;go_wp2;refine dO (HQ.out _ _ _ ⟨w5.heap.size,w7.heap.size,v,HV.out.1,HV.out.2,rfl,⟨rfl,rfl,rfl,rfl,rfl,rfl,rfl,rfl,rfl,trivial⟩, ?_, ?_,HB8.out.alloc HB8.out.size _⟩)
 ·exact⟨(aoF ((bR _ _).alloc (nR _) _) HA1.out.1 (nR _)),(aoF ((bR _ _).alloc (nR _) _) HA1.out.2 (nR _))⟩
 ·exact⟨by go_simp,by go_simp⟩
theorem aqy {w0:wD} {V:BkV} {B:Bk} {b6 b17 b19:Nat} {p r:Int} {x y:Int×Int} (hA:B.alarm=0) (hne:0<B.pairs.length) (hp:0<=p/\p<=255) (hr:0<=r/\r<=255) (h1:x.1<=y.1) (h2:y.1<=y.2) (h3:y.2<=x.2) (a:Act) (w:wD) (hB:dL w b6 V B) (hx:aoR w b17 x) (hy:aoR w b19 y) (hkw:Kept w0.heap.size w0 w) (hS:Sl a 96 [(17,pN (some ⟨b17,0,none⟩)),(18,iN qi 0),(19,pN (some ⟨b19,0,none⟩)),(20,iN qi 0),(4,.int .u8 p),(5,.int .u8 r),(6,pN (some ⟨b6,0,none⟩))]):
  GL tP 3 [.code ap2] (mY w0) a w:=by
 obtain⟨x1,x2⟩:=x;obtain⟨y1,y2⟩:=y;obtain⟨c1,c2⟩:=hx;obtain⟨d1,d2⟩:=hy;simp only at c1 c2 d1 d2 h1 h2 h3;simp only[ap2,av8,apS,apR,Tryd.f3,Option.getD_some];refine kV good (oJ good ?_);refine aU (iN qi 0) hS (fun a hS=> ?_);refine aU (.bool true) hS (fun a hS=> ?_);refine aU (.bool true) hS (fun a hS=> ?_);refine aU (iN qi 0) hS (fun a hS=> ?_) (hw:=FM (dd:=81) rfl rfl (by rw[hS.1];decide) hS.2.2.1);refine aU (.bool true) hS (fun a hS=> ?_) (hw:=FM (dd:=81) rfl rfl (by rw[hS.1];decide) hS.2.2.2.1);refine aU (.bool true) hS (fun a hS=> ?_);refine aU (.bool true) hS (fun a hS=> ?_);refine BJ hB hS (fun a hS=> ?_) (hw:=FM (dd:=85) rfl rfl (by rw[hS.1];decide) hS.2.2.1) (hs:=hS.2.2.2.2.2.2.2.2.2.2.2.2.2.2.2.1);refine aU (.int .u8 p) hS (fun a hS=> ?_) (hw:=FM (dd:=85) rfl rfl (by rw[hS.1];decide) hS.2.2.2.1);refine aU (.int .u8 r) hS (fun a hS=> ?_) (hw:=FM (dd:=85) rfl rfl (by rw[hS.1];decide) hS.2.2.2.2.1);refine aU (.agg #[iN qi x1,iN qi x2]) hS (fun a hS=> ?_) (hw:=FM (dd:=85) rfl rfl (by rw[hS.1];decide) hS.2.2.2.2.2.1) (hr:=by intro τ;have h:=(‹Sl _ _ _›).2.2;simp only[SlA] at h;simp[go_sem,h,bV,c1,c2]);refine aU (.agg #[iN qi y1,iN qi y2]) hS (fun a hS=> ?_) (hw:=FM (dd:=85) rfl rfl (by rw[hS.1];decide) hS.2.2.2.2.2.2.1) (hr:=by intro τ;have h:=(‹Sl _ _ _›).2.2;simp only[SlA] at h;simp[go_sem,h,bV,d1,d2]);refine pz (aqu p r x1 x2 y1 y2 hB hA hne hp hr h1 h2 h3) hS ?_ (hw:=FM (dd:=85) rfl rfl (by rw[hS.1];decide) hS.2.2.2.2.2.2.2.1);rintro a v u ⟨rfl,hk⟩ hS;have hB:=hB.kept hk;have hkw:=hkw.trans (hk.mono hkw.size);refine aU (.bool true) hS (fun a hS=> ?_);refine aU (.bool true) hS (fun a hS=> ?_);have hS:Sl a 96 [(93,.bool true)]:=⟨hS.1,hS.2.1,hS.2.2.1,trivial⟩;exact abA (N:=96) (i:=15) (p:=93) FI Tryd.func3 rfl rfl rfl rfl (FM (dd:=93) rfl rfl (by rw[hS.1];decide) hS.2.2.1) rfl rfl rfl rfl rfl rfl rfl rfl (by decide) (by decide) (by decide) (by decide) ⟨hS.1,hS.2.1,hS.2.2.1,trivial⟩ hB.vars hkw
theorem aqz {l:List (Int×Int)} (h: ∀x∈l,insB x 0 9=true): ∀x∈l,0<=x.1/\x.1<=x.2/\x.2<=9:=fun x hx=>by
 have:=h x hx;simp only[insB,decide_eq_true_eq] at this;exact⟨this.2.1,this.1,this.2.2⟩
theorem aqA (V:BkV) (B:Bk) (l:List (Int×Int)) (xa:Option Addr) (xc:Nat) (q m p r:Int) (w:wD) (hq:0<=q/\q<=255) (hm:0<=m/\m<=65535) (hp:0<=p/\p<=255) (hr0:0<=r/\r<=255) (hs:iw w V B) (hr:fH w V) (hv:Vars w) (hx:SlB w xa l) (hl:l.length<=maxLen):
  GL tP 3 [.code apR] (mY w) ⟨(V.val B:: sL xa l.length xc:: .int .u8 q:: .int .u16 m:: .int .u8 p:: .int .u8 r::List.replicate 90 undef).toArray,[]⟩ w:=by
 refine pq (fun τ=>aqt V B xa l.length xc q m p r (w.tp τ 0 noJ) hs.tp hl) ?_;rintro τ it a u ⟨b6,rfl,hS,hc,hb⟩;have hkw:Kept w.heap.size w u:=rJ (Kept.refl _ _) hb;have e33:a.eval (.tmp 33)= .bool (apT B l.length):=by rw[ev];exact hS.2.2.1
 cases hf:apT B l.length with
 |true=>
  rw[hf] at e33;simp only[ap1,apR,Tryd.f3,Option.getD_some];refine sO good true e33 ?_;rw[if_pos rfl];refine kV good (oJ good ?_);exact Ob (N:=96) (i:=0) FI Tryd.func3 rfl rfl rfl rfl rfl rfl rfl rfl rfl (by decide) (by decide) (by decide) ⟨hS.1,hS.2.1,trivial⟩ (hv.kept hkw) hkw
 |false=>
  rw[hf] at e33;simp only[apT,Bool.or_eq_false_iff,Bool.not_eq_false',Bool.and_eq_true,decide_eq_false_iff_not,decide_eq_true_eq] at hf;obtain⟨⟨⟨hfit,hne⟩,h0⟩,h4⟩:=hf;obtain⟨hg,ha⟩:=ab9 hfit;have hB:=acd hs hr hv hg hkw hc;have e:ap1= .cond (.tmp 33) (match ap1 with | .cond _ x _=>x |_=> .skip) .skip:=rfl;rw[e];refine sO good false e33 ?_;rw[if_neg (by decide)];refine LM good ?_;have hS:Sl a 96 [(1,sL xa l.length xc),(2,.int .u8 q),(3,.int .u16 m),(4,.int .u8 p),(5,.int .u8 r),(6,pN (some ⟨b6,0,none⟩))]:=⟨hS.1,hS.2.1,hS.2.2.2⟩;have e2:apS= .seq (.seq (match apS with | .seq (.seq x _) _=>x |_=> .skip) (.block 0 (.loop apV))) av8:=rfl;rw[e2];refine kV good (kV good ?_);simp only[apS,apR,Tryd.f3,Option.getD_some];refine oJ good ?_;refine aU (iN qi ((0 :Nat):Int)) hS (fun a hS=> ?_);refine lY good (LP good (YC good ?_));refine aqv (l:=l) (by omega) l.length 0 a u (by omega) hB (hx.kept hkw) hkw (fun x hx=>by simp at hx) hS ?_;intro a u2 hB2 hx2 hk2 hin hS;have hok:=aqz hin;refine pq (fun τ=>aqx (by omega) hok hq hm a (u2.tp τ 0 noJ) (hx2.kept jD) hS) ?_;rintro τ it a u3 ⟨b17,b19,k,v,hk,hv1,hv2,rfl,hS,hx3,hy3,hb3⟩;have hk3:Kept u2.heap.size u2 u3:=rJ (Kept.refl _ _) hb3;have eb:bnd l k=l[k]:=by unfold bnd;rw[lD,lG hk];rfl
  rw[eb] at hv1 hv2;obtain⟨z1,z2,z3,_⟩:=aqh hk (fun x hx=>(hok x hx).2.1) ⟨hv1,hv2⟩;exact aqy ha hne hp hr0 z1 z2 z3 a u3 (hB2.kept hk3) hx3 hy3 (hk2.trans (hk3.mono hk2.size)) hS
end Go.Proofs.YtfiiffnbggnkfaaDoor
namespace Go.Proofs.YtfiiffnbggnkfaaDoor
open Go.RowKit Go.Rent Go.Tp Go.Conc Go.ChangeShapes Go.WideShapes Go.ChangeAt
theorem ahG (a0 a1 a2 a3 a4 a5:vL) (n:Nat):(#[a0,a1,a2,a3,a4,a5]++Array.replicate n undef:Array vL)=(a0::a1::a2::a3::a4::a5::List.replicate n undef).toArray:=by simp
theorem aqB {H:Type} {enc:TypeId×vL->H} {w:wD} {base b0:Nat} {spare:Nat->Bool} {held:Bool} {r:Reach} {v:vL} {d:DataW H} {p:List MemPlace}
  (hv:Value.okWide tP w r b0 27 v) (h:DataW.Trod enc tP w base spare held 27 v d p): ∃(sa:Option Addr) (l:List (Int×Int)) (cap:Nat),v= sL sa l.length cap/\l.length<=maxLen/\SlB w sa l:=by
 obtain⟨a,len,cap,rfl⟩:=okWide_slice Tryd.underlying27 hv;obtain⟨fuel,hf⟩:=h;have hf':DataW.trod enc tP w base spare held fuel 27 [sL a len cap]=some (d,p):=hf;obtain⟨sa,l,cap2,e,h1,h2,h3,_⟩:=MJ Tryd.underlying27 Tryd.underlying33 (by kernel_rfl) rfl rfl (by kernel_rfl) (by kernel_rfl) Tryd.underlying3 Tryd.underlying3 hf';simp only[List.cons.injEq,and_true] at e;exact⟨sa,l,cap2,e,by omega,h1⟩
theorem aqC (os:Os) (started:os.Started) (H:Type) (enc:TypeId×vL->H):
  ReturnsInLeavingWide {} Tryd.checked os 3 .any (fun w args=>(Rows.rentAverageSpec.pre enc tP Tryd.f3 [] false w args/\laidMetH tP vF w)/\sizedMet enc tP Tryd.f3 (OpenSpec.ofChange Rows.rentAverageSpec) false w args)
   (Rows.rentAverageSpec.post enc tP Tryd.f3 false true false false):=by
 refine ab2 (C:=Tryd.checked) (X:=fun w _=>laidMetH tP vF w) (fun _ _ _ hh h=>h.of_heap hh) ab3 started Tryd.func3
  (ChangeSpec.witness_shaped (enc:=enc) (C:=Tryd.checked) (os:=os) (X:=fun w _=>laidMetH tP vF w) false (World.doorLaid tP 600 os) #[.agg #[iN qi 0,sL none 0 0,sL none 0 0,sL none 0 0],sL none 0 0,.int .u8 0,.int .u16 0,.int .u8 0,.int .u8 0] 3 rfl (World.shaped_of_RefB (by kernel_rfl) (by kernel_rfl)) (by kernel_rfl) (by kernel_rfl) (by kernel_rfl) (door_met os _)) ?_
 intro W base args ds gs before hval0 hW hL;have hval: ∀(j:Nat) t v,Tryd.f3.params[j]? =some t->args[j]? =some v->Value.okWide tP W .any base t v:=hval0;have hW':=hW;obtain⟨p,q,hA0,hV,rfl,_,_⟩:=hW;have hA:DataW.TrodAll enc tP W 0 (fun _=>true) true Tryd.f3.params.toList args.toList ds p:=hA0;rw[Tryd.params3] at hA hval;obtain⟨v0,vs0,d0,ds0,p0,q0,hargs,rfl,rfl,h0,hr0⟩:=trodAll_cons hA;obtain⟨v1,vs1,d1,ds1,p1,q1,rfl,rfl,rfl,h1,hr1⟩:=trodAll_cons hr0;obtain⟨v2,vs2,d2,ds2,p2,q2,rfl,rfl,rfl,h2,hr2⟩:=trodAll_cons hr1;obtain⟨v3,vs3,d3,ds3,p3,q3,rfl,rfl,rfl,h3,hr3⟩:=trodAll_cons hr2;obtain⟨v4,vs4,d4,ds4,p4,q4,rfl,rfl,rfl,h4,hr4⟩:=trodAll_cons hr3;obtain⟨v5,vs5,d5,ds5,p5,q5,rfl,rfl,rfl,h5,hr5⟩:=trodAll_cons hr4;obtain⟨rfl,rfl,rfl⟩:=trodAll_nil hr5;obtain rfl:args= #[v0,v1,v2,v3,v4,v5]:=by cases args;simp_all
 obtain⟨rfl,rfl⟩:=trodVars_none hV;obtain⟨V,B,rfl,hB,hR⟩:=ZC (hval 0 26 v0 rfl rfl) h0;obtain⟨xa1,xs1,xc1,rfl,hl1,hP1⟩:=aqB (hval 1 27 v1 rfl rfl) h1;obtain⟨n2,rfl,rfl,rfl,hwn2⟩:=open_int Tryd.underlying5 (hval 2 5 v2 rfl rfl) h2;have hn2:0<=n2/\n2<=255:=by simpa[Lit.wf,IntKind.min,IntKind.max,IntKind.signed,IntKind.bits] using hwn2
 obtain⟨n3,rfl,rfl,rfl,hwn3⟩:=open_int Tryd.underlying28 (hval 3 28 v3 rfl rfl) h3;have hn3:0<=n3/\n3<=65535:=by simpa[Lit.wf,IntKind.min,IntKind.max,IntKind.signed,IntKind.bits] using hwn3
 obtain⟨n4,rfl,rfl,rfl,hwn4⟩:=open_int Tryd.underlying5 (hval 4 5 v4 rfl rfl) h4;have hn4:0<=n4/\n4<=255:=by simpa[Lit.wf,IntKind.min,IntKind.max,IntKind.signed,IntKind.bits] using hwn4
 obtain⟨n5,rfl,rfl,rfl,hwn5⟩:=open_int Tryd.underlying5 (hval 5 5 v5 rfl rfl) h5;have hn5:0<=n5/\n5<=255:=by simpa[Lit.wf,IntKind.min,IntKind.max,IntKind.signed,IntKind.bits] using hwn5
 have hv:=ab4 hL;simp only[List.append_nil] at hW';have hlt: ∀x∈p0++(p1),x.block<W.heap.size:=fun x hx=>hW'.lt x hx;have hgl:=aqA V B xs1 xa1 xc1 n2 n3 n4 n5 (gy W) hn2 hn3 hn4 hn5 (hB.of_cell (nV W)) (ab6 hR) (ab5 hv) (hP1.of_cell (nV W)) hl1;refine abz good Tryd.func3 (x:=apR) (by rfl) (by kernel_rfl) (fun t=>⟨_,by simp[results,Tryd.results3];rfl⟩) W _ (mY (gy W)) _ (fun v w τ d d' j _ _ hj hr=> ?_) ?_
 ·obtain⟨rfl,hk⟩:=hr;refine ab8 (ds:= [d0,d1,.lit (.int .u8 n2),.lit (.int .u16 n3),.lit (.int .u8 n4),.lit (.int .u8 n5)]) (by kernel_rfl) hW' (fun W' hbl=>⟨(p0++(p1++([]++([]++([]++([]++ [])))))), ?_⟩) rfl rfl (ab7 hj hk);rw[Tryd.params3];exact trodAll_cons_mk (Below.trod Oj (by kernel_rfl) (of_decide_eq_true (by kernel_rfl)) h0 hbl fun x hx=>hlt x (by simp[hx])) (trodAll_cons_mk (Below.trod Oj (by kernel_rfl) (of_decide_eq_true (by kernel_rfl)) h1 hbl fun x hx=>hlt x (by simp[hx])) (trodAll_cons_mk (shut_int Tryd.underlying5 hwn2) (trodAll_cons_mk (shut_int Tryd.underlying28 hwn3) (trodAll_cons_mk (shut_int Tryd.underlying5 hwn4) (trodAll_cons_mk (shut_int Tryd.underlying5 hwn5) trodAll_mk0)))))
 ·rw[show Tryd.f3.ntmps-(#[V.val B,sL xa1 xs1.length xc1,.int .u8 n2,.int .u16 n3,.int .u8 n4,.int .u8 n5]:Array vL).size=90 from by rw[Tryd.ntmps3];rfl,ahG];exact hgl
theorem aqD:Rows.RentAverageSaid:=
 OpenClaim.holds_of_wide_leaving 3 Tryd.f3 rfl rfl rfl rfl rfl rfl rfl ⟨rfl,rfl,rfl,rfl,rfl⟩ rfl rfl rfl rfl rfl (by kernel_rfl) Tryd.func3 (by kernel_rfl)
  (of_decide_eq_true (by kernel_rfl)) (by unfold Func.isWrapper;first | (rw[if_pos (by decide+kernel)];kernel_rfl) | (rw[if_neg (by decide+kernel)];exact⟨rfl,rfl⟩))
  (fun os started H enc _=>aqC os started H enc)
theorem average_card:Rows.RentAverageCardSaid:=
 aco .later [.funcs,.funcs,.funcs] true (true, "39fca605f8b5e64e51cc107972c444f013a12860d81a6e3171e28784fb75b73b") false
  aqD (by kernel_rfl) rentAverage_row_tie rfl ⟨rfl,rfl⟩ (by kernel_rfl) rfl
  (fun f fn hf hfn=>by
   obtain rfl:f=3:=Option.some.inj ((show tP.funcNamed "baudot/baudotlaw09.RentAverage" =some 3 by kernel_rfl).symm.trans hf) |>.symm;obtain rfl:fn=Tryd.f3:=(Option.some.inj (Tryd.func3.symm.trans hfn)).symm;exact⟨by kernel_rfl,fun j t ht=>by
    rw[Tryd.params3] at ht
    match j,ht with
    | 0,ht=>cases ht;exact(show tP.wantsStandIn 26=false by kernel_rfl)
    | 1,ht=>cases ht;exact(show tP.wantsStandIn 27=false by kernel_rfl)
    | 2,ht=>cases ht;exact(show tP.wantsStandIn 5=false by kernel_rfl)
    | 3,ht=>cases ht;exact(show tP.wantsStandIn 28=false by kernel_rfl)
    | 4,ht=>cases ht;exact(show tP.wantsStandIn 5=false by kernel_rfl)
    | 5,ht=>cases ht;exact(show tP.wantsStandIn 5=false by kernel_rfl)⟩)
  (by kernel_rfl)
#print axioms average_card
end Go.Proofs.YtfiiffnbggnkfaaDoor
