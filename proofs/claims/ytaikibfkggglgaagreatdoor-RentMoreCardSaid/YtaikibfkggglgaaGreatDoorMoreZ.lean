/- RentMore holds, for every input; no conditions. -/
import Derived.Test.YtaikibfkggglgaaGreatDoorMore06
open Go.IntKind renaming i64→qi
open Go.Value renaming int→iN, slice→sL, pointer→pN
set_option maxRecDepth 100000
open Go.Proofs.Tryz renaming prog→tP
set_option maxHeartbeats 4000000
namespace Go.Proofs.YtaikibfkggglgaaGreatDoor
open Go.RowKit Go.Rent Go.Tp Go.Conc
noncomputable def an4:Code:=Tryz.f3.body.getD .skip
noncomputable def aoa:Code:=match an4 with
 | .seq _ (.seq (.seq _ c) _)=>c
 |_=> .skip
noncomputable def an7:Code:=match an4 with
 | .seq _ (.seq _ c)=>c
 |_=> .skip
noncomputable def my7:Code:=match an7 with
 | .seq _ (.seq _ (.seq _ c))=>c
 |_=> .skip
theorem aoA {w0:World} {V:BkV} {B:Bk} {b1:Nat} {k m:Int} (hpc:V.pa=none->V.pc=0) (hz: ∀t∈B.towns,t.size<=1000000) (a:Act) (w:World) (hB:dL w b1 V B) (hkw:Kept w0.heap.size w0 w) (hS:Sl a 63 [(1,iN qi k),(3,iN qi m),(4,pN (some ⟨b1,0,none⟩))]):
  GL tP 3 [.code my7] (mY w0) a w:=by
 obtain⟨c,s,hv⟩:=aoz (B:=B) (k:=k) (n:=m);simp only[my7,an7,an4,Tryz.f3,Option.getD_some];refine kV good (oJ good ?_);refine BJ hB hS (fun a hS=> ?_) (hs:=hS.2.2.2.2.1);refine aU (iN qi k) hS (fun a hS=> ?_);refine aU (iN qi m) hS (fun a hS=> ?_);refine pz (aow hB hpc hv) hS ?_;rintro a v u ⟨rfl,hk⟩ hS;have hB:=hB.kept hk;have hkw:=hkw.trans (hk.mono hkw.size);refine aU (.tuple #[iN qi c,iN qi s]) hS (fun a hS=> ?_);refine aU (iN qi c) hS (fun a hS=> ?_);refine aU (iN qi s) hS (fun a hS=> ?_);refine aU (iN qi c) hS (fun a hS=> ?_);refine aU (iN qi s) hS (fun a hS=> ?_);refine lY good ?_;have hS:Sl a 63 [(9,iN qi c),(10,iN qi s),(1,iN qi k),(3,iN qi m),(4,pN (some ⟨b1,0,none⟩))]:=⟨hS.1,hS.2.1,hS.2.2.2.1,hS.2.2.1,hS.2.2.2.2.2.2.2.2.2.2.2.1,hS.2.2.2.2.2.2.2.2.2.2.2.2.1,hS.2.2.2.2.2.2.2.2.2.2.2.2.2.1,trivial⟩;refine kV good (oJ good ?_);refine BJ hB hS (fun a hS=> ?_) (hs:=hS.2.2.2.2.2.2.1);refine aU (iN qi k) hS (fun a hS=> ?_);refine aU (iN qi m) hS (fun a hS=> ?_);refine pz (aox hB hz hv) hS ?_;rintro a v u ⟨rfl,hk⟩ hS;have hB:=hB.kept hk;have hkw:=hkw.trans (hk.mono hkw.size);refine aU (.tuple #[iN qi c,iN qi s]) hS (fun a hS=> ?_);refine aU (iN qi c) hS (fun a hS=> ?_);refine aU (iN qi s) hS (fun a hS=> ?_);refine aU (iN qi c) hS (fun a hS=> ?_);refine aU (iN qi s) hS (fun a hS=> ?_);refine lY good ?_;have hS:Sl a 63 [(11,iN qi c),(12,iN qi s),(9,iN qi c),(10,iN qi s),(4,pN (some ⟨b1,0,none⟩))]:=⟨hS.1,hS.2.1,hS.2.2.2.1,hS.2.2.1,hS.2.2.2.2.2.2.2.2.2.2.2.1,hS.2.2.2.2.2.2.2.2.2.2.2.2.1,hS.2.2.2.2.2.2.2.2.2.2.2.2.2.2.2.1,trivial⟩;refine kV good (oJ good ?_);refine aU (iN qi c) hS (fun a hS=> ?_);refine aU (iN qi c) hS (fun a hS=> ?_);refine aU (.bool true) hS (fun a hS=> ?_) (hr:=by intro τ;have h:=(‹Sl _ _ _›).2.2;simp only[SlA] at h;simp[go_sem,h]);refine aU (.bool true) hS (fun a hS=> ?_);refine aU (iN qi s) hS (fun a hS=> ?_) (hw:=FM (dd:=55) rfl rfl (by rw[hS.1];decide) hS.2.2.1);refine aU (iN qi s) hS (fun a hS=> ?_) (hw:=FM (dd:=55) rfl rfl (by rw[hS.1];decide) hS.2.2.2.1);refine aU (.bool true) hS (fun a hS=> ?_) (hw:=FM (dd:=55) rfl rfl (by rw[hS.1];decide) hS.2.2.2.2.1) (hr:=by intro τ;have h:=(‹Sl _ _ _›).2.2;simp only[SlA] at h;simp[go_sem,h]);refine aU (.bool true) hS (fun a hS=> ?_);refine aU (.bool true) hS (fun a hS=> ?_);have hS:Sl a 63 [(60,.bool true)]:=⟨hS.1,hS.2.1,hS.2.2.1,trivial⟩;exact abA (N:=63) (i:=9) (p:=60) FI Tryz.func3 rfl rfl rfl rfl (FM (dd:=60) rfl rfl (by rw[hS.1];decide) hS.2.2.1) rfl rfl rfl rfl rfl rfl rfl rfl (by decide) (by decide) (by decide) (by decide) ⟨hS.1,hS.2.1,hS.2.2.1,trivial⟩ hB.vars hkw
theorem aoB {w0:World} {V:BkV} {B:Bk} {b1:Nat} {k h m:Int} (hpc:V.pa=none->V.pc=0) (hz: ∀t∈B.towns,t.size<=1000000) (a:Act) (w:World) (hB:dL w b1 V B) (hkw:Kept w0.heap.size w0 w) (hS:Sl a 63 [(1,iN qi k),(2,iN qi h),(3,iN qi m),(4,pN (some ⟨b1,0,none⟩))]):
  GL tP 3 [.code an7] (mY w0) a w:=by
 obtain⟨c,s,hv⟩:=aoy (B:=B) (k:=k) (n:=h);have e9:an7= .seq (match an7 with | .seq x _=>x |_=> .skip) (.seq (match an7 with | .seq _ (.seq x _)=>x |_=> .skip) (.seq (match an7 with | .seq _ (.seq _ (.seq x _))=>x |_=> .skip) my7)):=rfl;rw[e9];simp only[an7,an4,Tryz.f3,Option.getD_some];refine kV good (oJ good ?_);refine BJ hB hS (fun a hS=> ?_) (hs:=hS.2.2.2.2.2.1);refine aU (iN qi k) hS (fun a hS=> ?_);refine aU (iN qi h) hS (fun a hS=> ?_);refine pz (aou hB hpc hv) hS ?_;rintro a v u ⟨rfl,hk⟩ hS;have hB:=hB.kept hk;have hkw:=hkw.trans (hk.mono hkw.size);refine aU (.tuple #[iN qi c,iN qi s]) hS (fun a hS=> ?_);refine aU (iN qi c) hS (fun a hS=> ?_);refine aU (iN qi s) hS (fun a hS=> ?_);refine aU (iN qi c) hS (fun a hS=> ?_);refine aU (iN qi s) hS (fun a hS=> ?_);refine lY good ?_;have hS:Sl a 63 [(9,iN qi c),(10,iN qi s),(1,iN qi k),(2,iN qi h),(3,iN qi m),(4,pN (some ⟨b1,0,none⟩))]:=⟨hS.1,hS.2.1,hS.2.2.2.1,hS.2.2.1,hS.2.2.2.2.2.2.2.2.2.2.2.1,hS.2.2.2.2.2.2.2.2.2.2.2.2.1,hS.2.2.2.2.2.2.2.2.2.2.2.2.2.1,hS.2.2.2.2.2.2.2.2.2.2.2.2.2.2.1,trivial⟩;refine kV good (oJ good ?_);refine BJ hB hS (fun a hS=> ?_) (hs:=hS.2.2.2.2.2.2.2.1);refine aU (iN qi k) hS (fun a hS=> ?_);refine aU (iN qi h) hS (fun a hS=> ?_);refine pz (aov hB hz hv) hS ?_;rintro a v u ⟨rfl,hk⟩ hS;have hB:=hB.kept hk;have hkw:=hkw.trans (hk.mono hkw.size);refine aU (.tuple #[iN qi c,iN qi s]) hS (fun a hS=> ?_);refine aU (iN qi c) hS (fun a hS=> ?_);refine aU (iN qi s) hS (fun a hS=> ?_);refine aU (iN qi c) hS (fun a hS=> ?_);refine aU (iN qi s) hS (fun a hS=> ?_);refine lY good ?_;have hS:Sl a 63 [(11,iN qi c),(12,iN qi s),(9,iN qi c),(10,iN qi s),(1,iN qi k),(3,iN qi m),(4,pN (some ⟨b1,0,none⟩))]:=⟨hS.1,hS.2.1,hS.2.2.2.1,hS.2.2.1,hS.2.2.2.2.2.2.2.2.2.2.2.1,hS.2.2.2.2.2.2.2.2.2.2.2.2.1,hS.2.2.2.2.2.2.2.2.2.2.2.2.2.1,hS.2.2.2.2.2.2.2.2.2.2.2.2.2.2.2.1,hS.2.2.2.2.2.2.2.2.2.2.2.2.2.2.2.2.1,trivial⟩;refine kV good (kV good ?_);refine oJ good ?_;refine aU (iN qi c) hS (fun a hS=> ?_);refine aU (iN qi c) hS (fun a hS=> ?_);refine aU (.bool false) hS (fun a hS=> ?_) (hr:=by intro τ;have h:=(‹Sl _ _ _›).2.2;simp only[SlA] at h;simp[go_sem,h]);refine aU (.bool false) hS (fun a hS=> ?_);refine aU (iN qi s) hS (fun a hS=> ?_) (hw:=FM (dd:=33) rfl rfl (by rw[hS.1];decide) hS.2.2.1);refine aU (iN qi s) hS (fun a hS=> ?_) (hw:=FM (dd:=33) rfl rfl (by rw[hS.1];decide) hS.2.2.2.1);refine aU (.bool false) hS (fun a hS=> ?_) (hw:=FM (dd:=33) rfl rfl (by rw[hS.1];decide) hS.2.2.2.2.1) (hr:=by intro τ;have h:=(‹Sl _ _ _›).2.2;simp only[SlA] at h;simp[go_sem,h]);refine aU (.bool false) hS (fun a hS=> ?_);refine lY good ?_;refine sO good false (by rw[ev];exact hS.2.2.1) ?_;rw[if_neg (by decide)];refine LM good ?_;have hS:Sl a 63 [(1,iN qi k),(3,iN qi m),(4,pN (some ⟨b1,0,none⟩))]:=⟨hS.1,hS.2.1,hS.2.2.2.2.2.2.2.2.2.2.2.2.2.2.1,hS.2.2.2.2.2.2.2.2.2.2.2.2.2.2.2.1,hS.2.2.2.2.2.2.2.2.2.2.2.2.2.2.2.2.1,trivial⟩;exact aoA hpc hz a u hB hkw hS
theorem aoC (V:BkV) (B:Bk) (k h m:Int) (w:World) (hs:iw w V B):
  Comes tP [.code an4] (fun it a u=> ∃b1,it= [.code aoa,.code an7]/\Sl a 63 [(14,.bool (dP B)),(1,iN qi k),(2,iN qi h),(3,iN qi m),(4,pN (some ⟨b1,0,none⟩))]/\(u.cell? ⟨b1,0,none⟩=some (iN qi B.hours)/\u.cell? ⟨b1,1,none⟩=some (sL V.ta B.towns.length V.tc)/\u.cell? ⟨b1,2,none⟩=some (sL V.la B.links.length V.lc)/\u.cell? ⟨b1,3,none⟩=some (sL V.pa B.pairs.length V.pc))/\Below w.heap.size w u)
   ⟨(V.val B:: iN qi k:: iN qi h:: iN qi m::List.replicate 59 undef).toArray,[]⟩ w:=by
 obtain⟨ta,la,pa,tc,lc,pc⟩:=V;have hb0:Below w.heap.size w (w.alloc (.cells #[iN qi B.hours,sL ta B.towns.length tc,sL la B.links.length lc,sL pa B.pairs.length pc] 26)):=(Below.refl _ _).alloc (Nat.le_refl _) _;have HC:=Lib.hid (c14 ⟨ta,la,pa,tc,lc,pc⟩ B _ (hs.below hb0 (Nat.le_refl _)));have HB0:=Lib.hid hb0;clear hs hb0;generalize dP B=gr at *;simp only[List.replicate,BkV.val];simp only[an4,Tryz.f3,Option.getD_some];refine aK (bg ?_);go_wp2;refine aK (aK (bg ?_))
 go_wp2_with fail
 refine HC.out.mono ?_;rintro e w1 ⟨rfl,hb1⟩;have HB1:=Lib.hid (HB0.out.trans (hb1.mono (by simp)));have k0:w1.cell? ⟨w.heap.size,0,none⟩=some (iN qi B.hours):=by rw[(ak hb1).1 _ _ (by simp)];go_simp
 have k1:w1.cell? ⟨w.heap.size,1,none⟩=some (sL ta B.towns.length tc):=by rw[(ak hb1).1 _ _ (by simp)];go_simp
 have k2:w1.cell? ⟨w.heap.size,2,none⟩=some (sL la B.links.length lc):=by rw[(ak hb1).1 _ _ (by simp)];go_simp
 have k3:w1.cell? ⟨w.heap.size,3,none⟩=some (sL pa B.pairs.length pc):=by rw[(ak hb1).1 _ _ (by simp)];go_simp
 clear hb1;go_wp2;exact dO ⟨w.heap.size,rfl,⟨rfl,rfl,rfl,rfl,rfl,rfl,rfl,trivial⟩,⟨k0,k1,k2,k3⟩,HB1.out⟩
theorem aoD (V:BkV) (B:Bk) (k h m:Int) (w:World) (hs:iw w V B) (hr:fH w V) (hv:Vars w):
  GL tP 3 [.code an4] (mY w) ⟨(V.val B:: iN qi k:: iN qi h:: iN qi m::List.replicate 59 undef).toArray,[]⟩ w:=by
 refine pq (fun τ=>aoC V B k h m (w.tp τ 0 noJ) hs.tp) ?_;rintro τ it a u ⟨b1,rfl,hS,hcl,hb⟩;have hkw:Kept w.heap.size w u:=rJ (Kept.refl _ _) hb;have e14:a.eval (.tmp 14)= .bool (dP B):=by rw[ev];exact hS.2.2.1
 cases hg:dP B with
 |true=>
  rw[hg] at e14;simp only[aoa,an4,Tryz.f3,Option.getD_some];refine sO good true e14 ?_;rw[if_pos rfl];refine kV good (oJ good ?_);exact Ob (N:=63) (i:=0) FI Tryz.func3 rfl rfl rfl rfl rfl rfl rfl rfl rfl (by decide) (by decide) (by decide) ⟨hS.1,hS.2.1,trivial⟩ (hv.kept hkw) hkw
 |false=>
  rw[hg] at e14;have hB:=acd hs hr hv hg hkw hcl;have hz:=(hs.in hg).2;have e:aoa= .cond (.tmp 14) (match aoa with | .cond _ x _=>x |_=> .skip) .skip:=rfl;rw[e];refine sO good false e14 ?_;rw[if_neg (by decide)];refine LM good ?_;exact aoB hs.pc (fun t ht=>by have:=hz t ht;omega) a u hB hkw ⟨hS.1,hS.2.1,hS.2.2.2⟩
end Go.Proofs.YtaikibfkggglgaaGreatDoor
namespace Go.Proofs.YtaikibfkggglgaaGreatDoor
open Go.RowKit Go.Rent Go.Tp Go.Conc Go.ChangeShapes Go.WideShapes Go.ChangeAt
theorem afn (a0 a1 a2 a3:Value) (n:Nat):(#[a0,a1,a2,a3]++Array.replicate n undef:Array Value)=(a0::a1::a2::a3::List.replicate n undef).toArray:=by simp
theorem more_lifted (os:Os) (started:os.Started) (H:Type) (enc:TypeId×Value->H):
  ReturnsInLeavingWide {} Tryz.checked os 3 .any (fun w args=>(Rows.rentMoreSpec.pre enc tP Tryz.f3 [] false w args/\laidMetH tP vF w)/\sizedMet enc tP Tryz.f3 (OpenSpec.ofChange Rows.rentMoreSpec) false w args)
   (Rows.rentMoreSpec.post enc tP Tryz.f3 false true false false):=by
 refine ab2 (C:=Tryz.checked) (X:=fun w _=>laidMetH tP vF w) (fun _ _ _ hh h=>h.of_heap hh) ab3 started Tryz.func3
  (ChangeSpec.witness_shaped (enc:=enc) (C:=Tryz.checked) (os:=os) (X:=fun w _=>laidMetH tP vF w) false (World.doorLaid tP 600 os) #[.agg #[iN qi 0,sL none 0 0,sL none 0 0,sL none 0 0],iN qi 0,iN qi 0,iN qi 0] 3 rfl (World.shaped_of_RefB (by kernel_rfl) (by kernel_rfl)) (by kernel_rfl) (by kernel_rfl) (by kernel_rfl) (door_met os _)) ?_
 intro W base args ds gs before hval0 hW hL;have hval: ∀(j:Nat) t v,Tryz.f3.params[j]? =some t->args[j]? =some v->Value.okWide tP W .any base t v:=hval0;have hW':=hW;obtain⟨p,q,hA0,hV,rfl,_,_⟩:=hW;have hA:DataW.TrodAll enc tP W 0 (fun _=>true) true Tryz.f3.params.toList args.toList ds p:=hA0;rw[Tryz.params3] at hA hval;obtain⟨v0,vs0,d0,ds0,p0,q0,hargs,rfl,rfl,h0,hr0⟩:=trodAll_cons hA;obtain⟨v1,vs1,d1,ds1,p1,q1,rfl,rfl,rfl,h1,hr1⟩:=trodAll_cons hr0;obtain⟨v2,vs2,d2,ds2,p2,q2,rfl,rfl,rfl,h2,hr2⟩:=trodAll_cons hr1;obtain⟨v3,vs3,d3,ds3,p3,q3,rfl,rfl,rfl,h3,hr3⟩:=trodAll_cons hr2;obtain⟨rfl,rfl,rfl⟩:=trodAll_nil hr3;obtain rfl:args= #[v0,v1,v2,v3]:=by cases args;simp_all
 obtain⟨rfl,rfl⟩:=trodVars_none hV;obtain⟨V,B,rfl,hB,hR⟩:=ZC (hval 0 26 v0 rfl rfl) h0;obtain⟨n1,rfl,rfl,rfl,hwn1⟩:=open_int Tryz.underlying3 (hval 1 3 v1 rfl rfl) h1;obtain⟨n2,rfl,rfl,rfl,hwn2⟩:=open_int Tryz.underlying3 (hval 2 3 v2 rfl rfl) h2;obtain⟨n3,rfl,rfl,rfl,hwn3⟩:=open_int Tryz.underlying3 (hval 3 3 v3 rfl rfl) h3;have hv:=ab4 hL;simp only[List.append_nil] at hW';have hlt: ∀x∈p0,x.block<W.heap.size:=fun x hx=>hW'.lt x hx;have hgl:=aoD V B n1 n2 n3 (gy W) (hB.of_cell (nV W)) (ab6 hR) (ab5 hv);refine abz good Tryz.func3 (x:=an4) (by rfl) (by kernel_rfl) (fun t=>⟨_,by simp[results,Tryz.results3];rfl⟩) W _ (mY (gy W)) _ (fun v w τ d d' j _ _ hj hr=> ?_) ?_
 ·obtain⟨rfl,hk⟩:=hr;refine ab8 (ds:= [d0,.lit (.int qi n1),.lit (.int qi n2),.lit (.int qi n3)]) (by kernel_rfl) hW' (fun W' hbl=>⟨(p0++([]++([]++([]++ [])))), ?_⟩) rfl rfl (ab7 hj hk);rw[Tryz.params3];exact trodAll_cons_mk (Below.trod Oj (by kernel_rfl) (of_decide_eq_true (by kernel_rfl)) h0 hbl fun x hx=>hlt x (by simp[hx])) (trodAll_cons_mk (shut_int Tryz.underlying3 hwn1) (trodAll_cons_mk (shut_int Tryz.underlying3 hwn2) (trodAll_cons_mk (shut_int Tryz.underlying3 hwn3) trodAll_mk0)))
 ·rw[show Tryz.f3.ntmps-(#[V.val B,iN qi n1,iN qi n2,iN qi n3]:Array Value).size=59 from by rw[Tryz.ntmps3];rfl,afn];exact hgl
theorem more_holds:Rows.RentMoreSaid:=
 OpenClaim.holds_of_wide_leaving 3 Tryz.f3 rfl rfl rfl rfl rfl rfl rfl ⟨rfl,rfl,rfl,rfl,rfl⟩ rfl rfl rfl rfl rfl (by kernel_rfl) Tryz.func3 (by kernel_rfl)
  (of_decide_eq_true (by kernel_rfl)) (by unfold Func.isWrapper;first | (rw[if_pos (by decide+kernel)];kernel_rfl) | (rw[if_neg (by decide+kernel)];exact⟨rfl,rfl⟩))
  (fun os started H enc _=>more_lifted os started H enc)
theorem more_card:Rows.RentMoreCardSaid:=
 aco .later [.funcs,.funcs,.funcs] true (true, "2e4540737134248b0b79dc1793b5c5e3f28f9ac160a5c57c6ca780538b214062") false
  more_holds (by kernel_rfl) rentMore_row_tie rfl ⟨rfl,rfl⟩ (by kernel_rfl) rfl
  (fun f fn hf hfn=>by
   obtain rfl:f=3:=Option.some.inj ((show tP.funcNamed "baudot/baudotlaw09.RentMore" =some 3 by kernel_rfl).symm.trans hf) |>.symm;obtain rfl:fn=Tryz.f3:=(Option.some.inj (Tryz.func3.symm.trans hfn)).symm;exact⟨by kernel_rfl,fun j t ht=>by
    rw[Tryz.params3] at ht
    match j,ht with
    | 0,ht=>cases ht;exact(show tP.wantsStandIn 26=false by kernel_rfl)
    | 1,ht=>cases ht;exact(show tP.wantsStandIn 3=false by kernel_rfl)
    | 2,ht=>cases ht;exact(show tP.wantsStandIn 3=false by kernel_rfl)
    | 3,ht=>cases ht;exact(show tP.wantsStandIn 3=false by kernel_rfl)⟩)
  (by kernel_rfl)
#print axioms more_card
end Go.Proofs.YtaikibfkggglgaaGreatDoor
