/- RentNews holds, for every input; no conditions. -/
import Derived.Test.YtaikibfkggglgaaDoorNews03
set_option maxRecDepth 100000
open Go.Proofs.Tryd renaming prog→tP
set_option maxHeartbeats 4000000
namespace Go.Proofs.YtaikibfkggglgaaDoor
open Go.RowKit Go.Rent Go.Tp Go.Conc Go.ChangeShapes Go.WideShapes Go.ChangeAt
theorem ahG (a0 a1 a2 a3 a4 a5:Value) (n:Nat):(#[a0,a1,a2,a3,a4,a5]++Array.replicate n undef:Array Value)=(a0::a1::a2::a3::a4::a5::List.replicate n undef).toArray:=by simp
theorem ahH {H:Type} {enc:TypeId×Value->H} {w:World} {base b0:Nat} {spare:Nat->Bool} {held:Bool} {r:Reach} {v:Value} {d:DataW H} {p:List MemPlace} (hv:Value.okWide tP w r b0 53 v) (h:DataW.Trod enc tP w base spare held 53 v d p): ∃x1 x2:Int,v= .agg #[.int .i64 x1,.int .i64 x2]:=by
 obtain⟨v0,v1,y0,y1,n,rfl,_,_,h0,h1⟩:=Go.Joins.open_agg2 (P:=tP) Tryd.underlying53 (by kernel_rfl) (by kernel_rfl) hv h;obtain⟨x1,e0,_⟩:=DataW.trod_int Tryd.underlying3 h0;obtain⟨x2,e1,_⟩:=DataW.trod_int Tryd.underlying3 h1;simp only[List.cons.injEq,and_true] at e0 e1;subst e0 e1;exact⟨x1,x2,rfl⟩
theorem ahI (os:Os) (started:os.Started) (H:Type) (enc:TypeId×Value->H):
  ReturnsInLeavingWide {} Tryd.checked os 13 .any (fun w args=>(Rows.rentNewsSpec.pre enc tP Tryd.f13 [] false w args/\laidMetH tP vF w)/\sizedMet enc tP Tryd.f13 (OpenSpec.ofChange Rows.rentNewsSpec) false w args)
   (Rows.rentNewsSpec.post enc tP Tryd.f13 false true false false):=by
 refine ab2 (C:=Tryd.checked) (X:=fun w _=>laidMetH tP vF w) (fun _ _ _ hh h=>h.of_heap hh) ab3 started Tryd.func13
  (ChangeSpec.witness_shaped (enc:=enc) (C:=Tryd.checked) (os:=os) (X:=fun w _=>laidMetH tP vF w) false (World.doorLaid tP 600 os) #[.agg #[.int .i64 0,.slice none 0 0,.slice none 0 0,.slice none 0 0],.int .u8 0,.int .u8 0,.int .u8 0,.agg #[.int .i64 0,.int .i64 0],.slice none 0 0] 13 rfl (World.shaped_of_RefB (by kernel_rfl) (by kernel_rfl)) (by kernel_rfl) (by kernel_rfl) (by kernel_rfl) (door_met os _)) ?_
 intro W base args ds gs before hval0 hW hL;have hval: ∀(j:Nat) t v,Tryd.f13.params[j]? =some t->args[j]? =some v->Value.okWide tP W .any base t v:=hval0;have hW':=hW;obtain⟨p,q,hA0,hV,rfl,_,_⟩:=hW;have hA:DataW.TrodAll enc tP W 0 (fun _=>true) true Tryd.f13.params.toList args.toList ds p:=hA0;rw[Tryd.params13] at hA hval;obtain⟨v0,vs0,d0,ds0,p0,q0,hargs,rfl,rfl,h0,hr0⟩:=trodAll_cons hA;obtain⟨v1,vs1,d1,ds1,p1,q1,rfl,rfl,rfl,h1,hr1⟩:=trodAll_cons hr0;obtain⟨v2,vs2,d2,ds2,p2,q2,rfl,rfl,rfl,h2,hr2⟩:=trodAll_cons hr1;obtain⟨v3,vs3,d3,ds3,p3,q3,rfl,rfl,rfl,h3,hr3⟩:=trodAll_cons hr2;obtain⟨v4,vs4,d4,ds4,p4,q4,rfl,rfl,rfl,h4,hr4⟩:=trodAll_cons hr3;obtain⟨v5,vs5,d5,ds5,p5,q5,rfl,rfl,rfl,h5,hr5⟩:=trodAll_cons hr4;obtain⟨rfl,rfl,rfl⟩:=trodAll_nil hr5;obtain rfl:args= #[v0,v1,v2,v3,v4,v5]:=by cases args;simp_all
 obtain⟨rfl,rfl⟩:=trodVars_none hV;obtain⟨V,B,rfl,hB,hR⟩:=ZC (hval 0 26 v0 rfl rfl) h0;obtain⟨n1,rfl,rfl,rfl,hwn1⟩:=open_int Tryd.underlying5 (hval 1 5 v1 rfl rfl) h1;have hn1:0<=n1/\n1<=255:=by simpa[Lit.wf,IntKind.min,IntKind.max,IntKind.signed,IntKind.bits] using hwn1
 obtain⟨n2,rfl,rfl,rfl,hwn2⟩:=open_int Tryd.underlying5 (hval 2 5 v2 rfl rfl) h2;have hn2:0<=n2/\n2<=255:=by simpa[Lit.wf,IntKind.min,IntKind.max,IntKind.signed,IntKind.bits] using hwn2
 obtain⟨n3,rfl,rfl,rfl,hwn3⟩:=open_int Tryd.underlying5 (hval 3 5 v3 rfl rfl) h3;have hn3:0<=n3/\n3<=255:=by simpa[Lit.wf,IntKind.min,IntKind.max,IntKind.signed,IntKind.bits] using hwn3
 obtain⟨xa4,xb4,rfl⟩:=ahH (hval 4 53 v4 rfl rfl) h4;obtain⟨sa,ps,cap,rfl,_,hl,hP,hb⟩:=ZE (hval 5 47 v5 rfl rfl) h5;have hv:=ab4 hL;simp only[List.append_nil,List.nil_append] at hW';have hlt: ∀x∈p0++(p4++(p5)),x.block<W.heap.size:=fun x hx=>hW'.lt x hx;have hgl:=ahF V B ps sa cap n1 n2 n3 xa4 xb4 (gy W) hn1 hn2 hn3 (hB.of_cell (nV W)) (ab6 hR) (ab5 hv) (hP.of_cell (nV W)) hb (by omega);refine abz good Tryd.func13 (x:=ag6) (by rfl) (by kernel_rfl) (fun t=>⟨_,by simp[results,Tryd.results13];rfl⟩) W _ (mY (gy W)) _ (fun v w τ d d' j _ _ hj hr=> ?_) ?_
 ·obtain⟨rfl,hk⟩:=hr;refine ab8 (ds:= [d0,.lit (.int .u8 n1),.lit (.int .u8 n2),.lit (.int .u8 n3),d4,d5]) (by kernel_rfl) hW' (fun W' hbl=>⟨(p0++([]++([]++([]++(p4++(p5++ [])))))), ?_⟩) rfl rfl (ab7 hj hk);rw[Tryd.params13];exact trodAll_cons_mk (Below.trod Oj (by kernel_rfl) (of_decide_eq_true (by kernel_rfl)) h0 hbl fun x hx=>hlt x (by simp[hx])) (trodAll_cons_mk (shut_int Tryd.underlying5 hwn1) (trodAll_cons_mk (shut_int Tryd.underlying5 hwn2) (trodAll_cons_mk (shut_int Tryd.underlying5 hwn3) (trodAll_cons_mk (Below.trod Oj (by kernel_rfl) (of_decide_eq_true (by kernel_rfl)) h4 hbl fun x hx=>hlt x (by simp[hx])) (trodAll_cons_mk (Below.trod Oj (by kernel_rfl) (of_decide_eq_true (by kernel_rfl)) h5 hbl fun x hx=>hlt x (by simp[hx])) trodAll_mk0)))))
 ·rw[show Tryd.f13.ntmps-(#[V.val B,.int .u8 n1,.int .u8 n2,.int .u8 n3,.agg #[.int .i64 xa4,.int .i64 xb4],.slice sa ps.length cap]:Array Value).size=213 from by rw[Tryd.ntmps13];rfl,ahG];exact hgl
theorem ahJ:Rows.RentNewsSaid:=
 OpenClaim.holds_of_wide_leaving 13 Tryd.f13 rfl rfl rfl rfl rfl rfl rfl ⟨rfl,rfl,rfl,rfl,rfl⟩ rfl rfl rfl rfl rfl (by kernel_rfl) Tryd.func13 (by kernel_rfl)
  (of_decide_eq_true (by kernel_rfl)) (by unfold Func.isWrapper;first | (rw[if_pos (by decide+kernel)];kernel_rfl) | (rw[if_neg (by decide+kernel)];exact⟨rfl,rfl⟩))
  (fun os started H enc _=>ahI os started H enc)
theorem news_card:Rows.RentNewsCardSaid:=
 aco .later [.funcs,.funcs,.funcs] true (true, "72ef7cba7f7fd8f165ce5e08d99ae6adf001f8a416de6ee8962cf05e685c9f16") false
  ahJ (by kernel_rfl) rentNews_row_tie rfl ⟨rfl,rfl⟩ (by kernel_rfl) rfl
  (fun f fn hf hfn=>by
   obtain rfl:f=13:=Option.some.inj ((show tP.funcNamed "baudot/baudotlaw09.RentNews" =some 13 by kernel_rfl).symm.trans hf) |>.symm;obtain rfl:fn=Tryd.f13:=(Option.some.inj (Tryd.func13.symm.trans hfn)).symm;exact⟨by kernel_rfl,fun j t ht=>by
    rw[Tryd.params13] at ht
    match j,ht with
    | 0,ht=>cases ht;exact(show tP.wantsStandIn 26=false by kernel_rfl)
    | 1,ht=>cases ht;exact(show tP.wantsStandIn 5=false by kernel_rfl)
    | 2,ht=>cases ht;exact(show tP.wantsStandIn 5=false by kernel_rfl)
    | 3,ht=>cases ht;exact(show tP.wantsStandIn 5=false by kernel_rfl)
    | 4,ht=>cases ht;exact(show tP.wantsStandIn 53=false by kernel_rfl)
    | 5,ht=>cases ht;exact(show tP.wantsStandIn 47=false by kernel_rfl)⟩)
  (by kernel_rfl)
#print axioms news_card
end Go.Proofs.YtaikibfkggglgaaDoor
