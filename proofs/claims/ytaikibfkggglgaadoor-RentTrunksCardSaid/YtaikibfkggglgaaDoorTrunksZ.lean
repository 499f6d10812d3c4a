/- RentTrunks holds, for every input; no conditions. -/
import Derived.Test.YtaikibfkggglgaaDoorTrunks04
set_option maxRecDepth 100000
open Go.Proofs.Tryd renaming prog→tP
set_option maxHeartbeats 4000000
namespace Go.Proofs.YtaikibfkggglgaaDoor
open Go.RowKit Go.Rent Go.Tp Go.Conc Go.ChangeShapes Go.WideShapes Go.ChangeAt
theorem afn (a0 a1 a2 a3:Value) (n:Nat):(#[a0,a1,a2,a3]++Array.replicate n undef:Array Value)=(a0::a1::a2::a3::List.replicate n undef).toArray:=by simp
theorem amB (os:Os) (started:os.Started) (H:Type) (enc:TypeId×Value->H):
  ReturnsInLeavingWide {} Tryd.checked os 3 .any (fun w args=>(Rows.rentTrunksSpec.pre enc tP Tryd.f3 [] false w args/\laidMetH tP vF w)/\sizedMet enc tP Tryd.f3 (OpenSpec.ofChange Rows.rentTrunksSpec) false w args)
   (Rows.rentTrunksSpec.post enc tP Tryd.f3 false true false false):=by
 refine ab2 (C:=Tryd.checked) (X:=fun w _=>laidMetH tP vF w) (fun _ _ _ hh h=>h.of_heap hh) ab3 started Tryd.func3
  (ChangeSpec.witness_shaped (enc:=enc) (C:=Tryd.checked) (os:=os) (X:=fun w _=>laidMetH tP vF w) false (World.doorLaid tP 600 os) #[.agg #[.int .i64 0,.slice none 0 0,.slice none 0 0,.slice none 0 0],.slice none 0 0,.slice none 0 0,.int .i64 0] 3 rfl (World.shaped_of_RefB (by kernel_rfl) (by kernel_rfl)) (by kernel_rfl) (by kernel_rfl) (by kernel_rfl) (door_met os _)) ?_
 intro W base args ds gs before hval0 hW hL;have hval: ∀(j:Nat) t v,Tryd.f3.params[j]? =some t->args[j]? =some v->Value.okWide tP W .any base t v:=hval0;have hW':=hW;obtain⟨p,q,hA0,hV,rfl,_,_⟩:=hW;have hA:DataW.TrodAll enc tP W 0 (fun _=>true) true Tryd.f3.params.toList args.toList ds p:=hA0;rw[Tryd.params3] at hA hval;obtain⟨v0,vs0,d0,ds0,p0,q0,hargs,rfl,rfl,h0,hr0⟩:=trodAll_cons hA;obtain⟨v1,vs1,d1,ds1,p1,q1,rfl,rfl,rfl,h1,hr1⟩:=trodAll_cons hr0;obtain⟨v2,vs2,d2,ds2,p2,q2,rfl,rfl,rfl,h2,hr2⟩:=trodAll_cons hr1;obtain⟨v3,vs3,d3,ds3,p3,q3,rfl,rfl,rfl,h3,hr3⟩:=trodAll_cons hr2;obtain⟨rfl,rfl,rfl⟩:=trodAll_nil hr3;obtain rfl:args= #[v0,v1,v2,v3]:=by cases args;simp_all
 obtain⟨rfl,rfl⟩:=trodVars_none hV;obtain⟨V,B,rfl,hB,hR⟩:=ZC (hval 0 26 v0 rfl rfl) h0;obtain⟨xa1,xs1,xc1,rfl,_,_,hP1⟩:=open_ints (hval 1 27 v1 rfl rfl) h1;obtain⟨xa2,xs2,xc2,rfl,_,_,hP2⟩:=open_ints (hval 2 27 v2 rfl rfl) h2;obtain⟨n3,rfl,rfl,rfl,hwn3⟩:=open_int Tryd.underlying3 (hval 3 3 v3 rfl rfl) h3;have hv:=ab4 hL;simp only[List.append_nil] at hW';have hlt: ∀x∈p0++(p1++(p2)),x.block<W.heap.size:=fun x hx=>hW'.lt x hx;have hgl:=amA V B xs1 xs2 xa1 xa2 xc1 xc2 n3 (gy W) (hB.of_cell (nV W)) (ab6 hR) (ab5 hv) (hP1.of_cell (nV W)) (hP2.of_cell (nV W));refine abz good Tryd.func3 (x:=alp) (by rfl) (by kernel_rfl) (fun t=>⟨_,by simp[results,Tryd.results3];rfl⟩) W _ (mY (gy W)) _ (fun v w τ d d' j _ _ hj hr=> ?_) ?_
 ·obtain⟨rfl,hk⟩:=hr;refine ab8 (ds:= [d0,d1,d2,.lit (.int .i64 n3)]) (by kernel_rfl) hW' (fun W' hbl=>⟨(p0++(p1++(p2++([]++ [])))), ?_⟩) rfl rfl (ab7 hj hk);rw[Tryd.params3];exact trodAll_cons_mk (Below.trod Oj (by kernel_rfl) (of_decide_eq_true (by kernel_rfl)) h0 hbl fun x hx=>hlt x (by simp[hx])) (trodAll_cons_mk (Below.trod Oj (by kernel_rfl) (of_decide_eq_true (by kernel_rfl)) h1 hbl fun x hx=>hlt x (by simp[hx])) (trodAll_cons_mk (Below.trod Oj (by kernel_rfl) (of_decide_eq_true (by kernel_rfl)) h2 hbl fun x hx=>hlt x (by simp[hx])) (trodAll_cons_mk (shut_int Tryd.underlying3 hwn3) trodAll_mk0)))
 ·rw[show Tryd.f3.ntmps-(#[V.val B,.slice xa1 xs1.length xc1,.slice xa2 xs2.length xc2,.int .i64 n3]:Array Value).size=163 from by rw[Tryd.ntmps3];rfl,afn];exact hgl
theorem amC:Rows.RentTrunksSaid:=
 OpenClaim.holds_of_wide_leaving 3 Tryd.f3 rfl rfl rfl rfl rfl rfl rfl ⟨rfl,rfl,rfl,rfl,rfl⟩ rfl rfl rfl rfl rfl (by kernel_rfl) Tryd.func3 (by kernel_rfl)
  (of_decide_eq_true (by kernel_rfl)) (by unfold Func.isWrapper;first | (rw[if_pos (by decide+kernel)];kernel_rfl) | (rw[if_neg (by decide+kernel)];exact⟨rfl,rfl⟩))
  (fun os started H enc _=>amB os started H enc)
theorem trunks_card:Rows.RentTrunksCardSaid:=
 aco .later [.funcs,.funcs,.funcs] true (true, "72ef7cba7f7fd8f165ce5e08d99ae6adf001f8a416de6ee8962cf05e685c9f16") false
  amC (by kernel_rfl) rentTrunks_row_tie rfl ⟨rfl,rfl⟩ (by kernel_rfl) rfl
  (fun f fn hf hfn=>by
   obtain rfl:f=3:=Option.some.inj ((show tP.funcNamed "baudot/baudotlaw09.RentTrunks" =some 3 by kernel_rfl).symm.trans hf) |>.symm;obtain rfl:fn=Tryd.f3:=(Option.some.inj (Tryd.func3.symm.trans hfn)).symm;exact⟨by kernel_rfl,fun j t ht=>by
    rw[Tryd.params3] at ht
    match j,ht with
    | 0,ht=>cases ht;exact(show tP.wantsStandIn 26=false by kernel_rfl)
    | 1,ht=>cases ht;exact(show tP.wantsStandIn 27=false by kernel_rfl)
    | 2,ht=>cases ht;exact(show tP.wantsStandIn 27=false by kernel_rfl)
    | 3,ht=>cases ht;exact(show tP.wantsStandIn 3=false by kernel_rfl)⟩)
  (by kernel_rfl)
#print axioms trunks_card
end Go.Proofs.YtaikibfkggglgaaDoor
