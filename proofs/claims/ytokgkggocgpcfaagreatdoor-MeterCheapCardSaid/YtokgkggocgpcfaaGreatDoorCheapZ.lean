/- MeterCheap holds for every input; no conditions but the row's own. -/
import Derived.Test.YtokgkggocgpcfaaGreatDoorCheap16
import Derived.Test.YtokgkggocgpcfaaGreatDoorCheap17
import Derived.Test.YtokgkggocgpcfaaGreatDoorTie
import Derived.Test.YtokgkggocgpcfaaGreatDoorCards
open Go.IntKind renaming i64->qi,signed->Al4,bits->Al5,min->Al6,max->Al7
open Go.Value renaming int->iN,slice->sL
open Go.Proofs.Tryz renaming prog->tP
open Go.Proofs.Tryz
set_option maxRecDepth 100000
set_option maxHeartbeats 4000000
set_option linter.all false
namespace Go.Proofs.YtokgkggocgpcfaaGreatDoor
open Go.Proofs.Y
open Go.RowKit Go.Meter Go.Tp Go.Conc Go.ChangeShapes Go.WideShapes Go.ChangeAt
def afR(os:Os)(d:os.Started)(H:Type)(enc:TypeId×Value->H):
 ReturnsInLeavingWide {} Tryz.checked os 7 .any (λw c=>(Rows.meterCheapSpec.pre enc tP f7 [] false w c/\laidMetH tP zi w)/\sizedMet enc tP f7 (OpenSpec.ofChange Rows.meterCheapSpec) false w c)
  (Rows.meterCheapSpec.post enc tP f7 false true false false):=by
 refine ae8 (C:=Tryz.checked) (X:=λw _=>laidMetH tP zi w) (λ_ _ _ hh h=>h.of_heap hh) ae9 d func7
  (ChangeSpec.witness_shaped (enc:=enc) (C:=Tryz.checked) (os:=os) (X:=λw _=>laidMetH tP zi w) false (World.doorLaid tP 600 os) #[.agg #[iN qi 0,iN qi 0,iN qi 0,sL none 0 0,sL none 0 0,sL none 0 0,sL none 0 0],.int .u16 0,.int .u8 0,.int .u8 0,.int .u8 0,.int .u8 0,.int .u16 0] 7 rfl (World.shaped_of_RefB xD xD) xD xD xD (door_met os _)) ?_
 intro W A c ds gs D y hW hL;have a:∀(j:Nat) t v,f7.params[j]? =some t->c[j]? =some v->Value.okWide tP W .any A t v:=y;have u:=hW;obtain⟨p,q,E,hV,rfl,_,_⟩:=hW;have hA:DataW.TrodAll enc tP W 0 (λ_=>true) true f7.params.toList c.toList ds p:=E;rw[params7]at hA a;obtain⟨v0,ah,d0,aa,p0,q0,F,rfl,rfl,h0,O⟩:=trodAll_cons hA;obtain⟨v1,ai,d1,ab,p1,q1,rfl,rfl,rfl,h1,P⟩:=trodAll_cons O;obtain⟨v2,aj,d2,ac,p2,q2,rfl,rfl,rfl,h2,Q⟩:=trodAll_cons P;obtain⟨v3,ak,d3,ad,p3,q3,rfl,rfl,rfl,h3,R⟩:=trodAll_cons Q;obtain⟨v4,al,d4,ae,p4,q4,rfl,rfl,rfl,h4,S⟩:=trodAll_cons R;obtain⟨v5,am,d5,af,p5,q5,rfl,rfl,rfl,h5,T⟩:=trodAll_cons S;obtain⟨v6,an,d6,ag,p6,q6,rfl,rfl,rfl,h6,U⟩:=trodAll_cons T;obtain⟨rfl,rfl,rfl⟩:=trodAll_nil U;obtain rfl:c=#[v0,v1,v2,v3,v4,v5,v6]:=by cases c;simp_all
 obtain⟨rfl,rfl⟩:=trodVars_none hV;obtain⟨V,B,rfl,hB,hR⟩:=ae7 (a 0 27 v0 rfl rfl) h0;obtain⟨Y,rfl,rfl,rfl,f⟩:=open_int underlying68 (a 1 68 v1 rfl rfl) h1;have I:0<=Y/\Y<=65535:=by simpa[Lit.wf,Al6,Al7,Al4,Al5]using f
 obtain⟨Z,rfl,rfl,rfl,g⟩:=open_int underlying5 (a 2 5 v2 rfl rfl) h2;have J:0<=Z/\Z<=255:=by simpa[Lit.wf,Al6,Al7,Al4,Al5]using g
 obtain⟨n3,rfl,rfl,rfl,l⟩:=open_int underlying5 (a 3 5 v3 rfl rfl) h3;have K:0<=n3/\n3<=255:=by simpa[Lit.wf,Al6,Al7,Al4,Al5]using l
 obtain⟨n4,rfl,rfl,rfl,m⟩:=open_int underlying5 (a 4 5 v4 rfl rfl) h4;have L:0<=n4/\n4<=255:=by simpa[Lit.wf,Al6,Al7,Al4,Al5]using m
 obtain⟨n5,rfl,rfl,rfl,r⟩:=open_int underlying5 (a 5 5 v5 rfl rfl) h5;have M:0<=n5/\n5<=255:=by simpa[Lit.wf,Al6,Al7,Al4,Al5]using r
 obtain⟨n6,rfl,rfl,rfl,s⟩:=open_int underlying68 (a 6 68 v6 rfl rfl) h6;have N:0<=n6/\n6<=65535:=by simpa[Lit.wf,Al6,Al7,Al4,Al5]using s
 have hv:=afb hL;simp only[List.append_nil]at u;have hlt:∀x∈p0,x.block<W.heap.size:=λx hx=>u.lt x hx;refine afi func7 xD results7 hv (λi v e=>?_) (aeQ (afg hv hB hR) I J K L M N) λw hb=>?_
 ·match i,e with
  |0,e=>cases e;exact afc hR
  |1,e=>cases e;exact .int _ _
  |2,e=>cases e;exact .int _ _
  |3,e=>cases e;exact .int _ _
  |4,e=>cases e;exact .int _ _
  |5,e=>cases e;exact .int _ _
  |6,e=>cases e;exact .int _ _
  |i+7,e=>simp at e
 refine afh (ds:=[d0,.lit (.int .u16 Y),.lit (.int .u8 Z),.lit (.int .u8 n3),.lit (.int .u8 n4),.lit (.int .u8 n5),.lit (.int .u16 n6)]) xD u (λW' G=>⟨(p0++([]++([]++([]++([]++([]++([]++[]))))))),?_⟩) rfl rfl hb;rw[params7];exact trodAll_cons_mk (Below.trod afa xD (of_decide_eq_true xD) h0 G λx hx=>hlt x (by simp[hx])) (trodAll_cons_mk (shut_int underlying68 f) (trodAll_cons_mk (shut_int underlying5 g) (trodAll_cons_mk (shut_int underlying5 l) (trodAll_cons_mk (shut_int underlying5 m) (trodAll_cons_mk (shut_int underlying5 r) (trodAll_cons_mk (shut_int underlying68 s) trodAll_mk0))))))
def afS:Rows.MeterCheapSaid:=
 OpenClaim.holds_of_wide_leaving 7 f7 rfl rfl rfl rfl rfl rfl rfl ⟨rfl,rfl,rfl,rfl,rfl⟩ rfl rfl rfl rfl rfl (by as_aux_lemma=>kernel_rfl) func7 afQ
  (of_decide_eq_true (by as_aux_lemma=>kernel_rfl)) (by unfold Func.isWrapper;first|(rw[if_pos (by decide+kernel)];kernel_rfl)|(rw[if_neg (by decide+kernel)];exact⟨rfl,rfl⟩))
  (λd a H c _=>afR d a H c)
theorem cheap_card:Rows.MeterCheapCardSaid:=
 afj .later [.funcs] true (true, "85f49ddfc64e7f2d7d19892ccfaba1b12e883a9cb2c6a7863b26581374c9a644") false
  afS (by as_aux_lemma=>kernel_rfl) meterCheap_row_tie rfl ⟨rfl,rfl⟩ (by as_aux_lemma=>kernel_rfl) rfl
  (λf d e c=>by
   obtain rfl:f=7:=Option.some.inj ((show tP.funcNamed "baudot/baudotlaw07.MeterCheap" =some 7 by as_aux_lemma=>kernel_rfl).symm.trans e)|>.symm;obtain rfl:d=f7:=(Option.some.inj (func7.symm.trans c)).symm;exact⟨by as_aux_lemma=>kernel_rfl,λj t a=>by
    rw[params7]at a
    match j,a with
    |0,a=>cases a;exact(show tP.wantsStandIn 27=false by as_aux_lemma=>kernel_rfl)
    |1,a=>cases a;exact(show tP.wantsStandIn 68=false by as_aux_lemma=>kernel_rfl)
    |2,a=>cases a;exact(show tP.wantsStandIn 5=false by as_aux_lemma=>kernel_rfl)
    |3,a=>cases a;exact(show tP.wantsStandIn 5=false by as_aux_lemma=>kernel_rfl)
    |4,a=>cases a;exact(show tP.wantsStandIn 5=false by as_aux_lemma=>kernel_rfl)
    |5,a=>cases a;exact(show tP.wantsStandIn 5=false by as_aux_lemma=>kernel_rfl)
    |6,a=>cases a;exact(show tP.wantsStandIn 68=false by as_aux_lemma=>kernel_rfl)⟩)
  (by as_aux_lemma=>kernel_rfl)
#print axioms cheap_card
end Go.Proofs.YtokgkggocgpcfaaGreatDoor
