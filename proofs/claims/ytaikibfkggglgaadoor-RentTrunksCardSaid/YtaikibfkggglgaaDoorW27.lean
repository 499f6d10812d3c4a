/- A part of the proof of a law; no conditions of its own. -/
import Derived.Test.YtaikibfkggglgaaDoorRows
import Derived.Conc.LeavingOf
import Derived.LaidMore
import Derived.OpenShut
import Derived.Carry
import Derived.ProofKit
import Derived.Stop.Joined
import Derived.Test.YtaikibfkggglgaaDoorW26
import Derived.Test.YtaikibfkggglgaaDoorTie
import Derived.Test.YtaikibfkggglgaaDoorCards
import Derived.SevenTiedAt
set_option maxRecDepth 100000
open Go renaming undef→ud
open Go.Proofs.Tryd renaming prog→tP
open List renaming getElem?_eq_some_iff→lS
open Array renaming getElem?_eq_getElem→aG
set_option maxHeartbeats 4000000
namespace Go
open Go.Conc
theorem ab2 {H:Type} {enc:TypeId×Value->H} {a:Assume} {C:Checked} {os:Os} {f:FuncId} {fn:Func} {s:ChangeSpec} {conds:List PathCond} {apart fresh handsOn again:Bool} {X:World->Array Value->Prop}
  (hX: ∀(w w':World) (args:Array Value),w.heap=w'.heap->X w args->X w' args) (own:ownKnob C.prog.godebug=none) (started:os.Started) (hfn:C.prog.funcs[f]? =some fn)
  (witness: ∃(w:World) (tape:Tape) (i:Input),w.os=os/\(w.forCall tape i).Shaped C.prog/\i.vars= []/\Input.okWide C.prog (w.forCall tape i) .any w.heap.size f i/\
   ((s.pre enc C.prog fn conds apart (w.forCall tape i).memory i.args/\X (w.forCall tape i).memory i.args)/\sizedMet enc C.prog fn (OpenSpec.ofChange s) apart (w.forCall tape i).memory i.args)/\a.holds C.prog (lone (Frame.enter C.prog f i.args .normal) [] (w.forCall tape i)))
  (runs: ∀(W:World) (base:Nat) (args:Array Value) (ds gs:List (DataW H)) (before:List MemPlace),
   (∀(j:Nat) t v,fn.params[j]? =some t->args[j]? =some v->Value.okWide C.prog W .any base t v)->
   DataW.Whole enc C.prog fn.params.toList s.vars apart W args.toList ds gs before->X W args->
   ∃M last o w' t',runNT C.prog (M+1) (solo (G (Frame.enter C.prog f args .normal) []) W) #[]=(.ended o w',t')/\runN C.prog M (solo (G (Frame.enter C.prog f args .normal) []) W)= .next last/\
    step C.prog last= .ended o w'/\Conc.Good C.prog (fun v W'=>s.post enc C.prog fn apart fresh handsOn again W args v W') last o w' t'):
  ReturnsInLeavingWide a C os f .any (fun w args=>(s.pre enc C.prog fn conds apart w args/\X w args)/\sizedMet enc C.prog fn (OpenSpec.ofChange s) apart w args) (s.post enc C.prog fn apart fresh handsOn again):=by
 refine returnsInLeavingWide_of_good own started witness ?_;intro w tape i _ _ _ hok hpre _;obtain⟨_,_,_,fn',hfn',_,_,_,_,hval⟩:=hok;have e:fn'=fn:=Option.some.inj (hfn'.symm.trans hfn);subst e;obtain⟨⟨⟨ds,gs,before,hw,_⟩,hx⟩,_⟩:=hpre;have hw':=DataW.Whole.of_heap (w':=w.forCall tape i) (by rfl) hw;obtain⟨M,last,o,w',t',h1,h2,h3,h4⟩:=runs (w.forCall tape i) w.heap.size i.args ds gs before hval hw' (hX _ _ _ (by rfl) hx);exact⟨M,last,o,w',t',h1,h2,h3,h4.mono fun v hp=>ChangeSpec.post_blind hp⟩
end Go
namespace Go.Proofs.YtaikibfkggglgaaDoor
open Go.RowKit Go.Rent Go.Tp Go.Conc Go.ChangeShapes Go.WideShapes Go.ChangeAt
theorem ab3:ownKnob tP.godebug=none:=by kernel_rfl
theorem Oj:laidOutB tP=true:=by kernel_rfl
theorem gl0:tP.globalNamed "baudot/rent.fewest" =some 0:=by kernel_rfl
theorem gl1:tP.globalNamed "baudot/rent.most" =some 1:=by kernel_rfl
theorem gl2:tP.globalNamed "baudot/rent.checks" =some 2:=by kernel_rfl
theorem gt0:(tP.globals[0]?).map (·.type)=some 98:=by kernel_rfl
theorem gt1:(tP.globals[1]?).map (·.type)=some 98:=by kernel_rfl
theorem gt2:(tP.globals[2]?).map (·.type)=some 102:=by kernel_rfl
abbrev vF {H:Type}:List (String×DataW H):= [("baudot/rent.checks",Rows.laid_baudot_rent_checks),("baudot/rent.fewest",Rows.laid_baudot_rent_fewest),("baudot/rent.most",Rows.laid_baudot_rent_most)]
theorem door_met (os:Os) (args:Array Value):laidMetH tP vF ((World.doorLaid tP 600 os).forCall (fun _ _=>0) ⟨#[],args,[]⟩).memory:=
 laidMetH_of_parts3 (fuel:=8) (laidMet_of_run' 8 (by kernel_rfl) (by kernel_rfl)) (by kernel_rfl) (by kernel_rfl)
theorem ab4 {W:World} (h:laidMetH tP vF W):Vars W:=by
 obtain⟨g2,t2,cs2,f2,p2,hg2,ht2,hv2,hd2⟩:=h.funcs (n:= "baudot/rent.checks") (List.mem_cons_self ..);obtain⟨g0,t0,cs0,f0,p0,hg0,ht0,hv0,hd0⟩:=h.funcs (n:= "baudot/rent.fewest") (List.mem_cons_of_mem _ (List.mem_cons_self ..));obtain⟨g1,t1,cs1,f1,p1,hg1,ht1,hv1,hd1⟩:=h.funcs (n:= "baudot/rent.most") (List.mem_cons_of_mem _ (List.mem_cons_of_mem _ (List.mem_cons_self ..)));obtain rfl:=Option.some.inj (gl0.symm.trans hg0);obtain rfl:=Option.some.inj (gl1.symm.trans hg1);obtain rfl:=Option.some.inj (gl2.symm.trans hg2);obtain rfl:=Option.some.inj (gt0.symm.trans ht0);obtain rfl:=Option.some.inj (gt1.symm.trans ht1);obtain rfl:=Option.some.inj (gt2.symm.trans ht2);have st: ∀{cs:List Value} {fuel:Nat} {l:List UInt8} {q:List MemPlace},DataW.trod (funcToken tP) tP W 0 (fun _=>true) true fuel 98 cs=some (.agg [.held l],q)-> ∃v n q',cs= [v]/\DataW.trod (funcToken tP) tP W 0 (fun _=>true) true n 96 [v]=some (.held l,q'):=by
  intro cs fuel l q hd;obtain⟨xs,n,_,hx,hlen,hxl,hf⟩:=DataW.trod_struct Tryd.underlying98 hd;have c98:tP.cellsOf 98=1:=by kernel_rfl
  have c96:tP.cellsOf 96=1:=by kernel_rfl
  rw[c98] at hlen
  match cs,hlen with
  | [v],_=>
   have h0:=hf 0 _ rfl
   match xs,hxl,hx,h0 with
   | [x0],_,hx,h0=>
    simp only[Prod.mk.injEq,DataW.agg.injEq,List.map_cons,List.map_nil,List.cons.injEq,and_true] at hx;obtain⟨x0d,x0p⟩:=x0;obtain⟨e1,_⟩:=hx;simp only at e1;subst e1;have h1:DataW.trod (funcToken tP) tP W 0 (fun _=>true) true n 96 (([v].drop 0).take (tP.cellsOf 96))=some (.held l,x0p):=h0;rw[c96] at h1;exact⟨v,n,x0p,rfl,h1⟩
 obtain⟨v0,n0,q0,e0,r0⟩:=st hd0;obtain⟨v1,n1,q1,e1,r1⟩:=st hd1;have k0:=func_of_trod (f0:=144) Tryd.underlying96 (by kernel_rfl) r0;have k1:=func_of_trod (f0:=145) Tryd.underlying96 (by kernel_rfl) r1;subst k0 k1;obtain⟨xs,n,_,hx,hlen,hxl,hf⟩:=DataW.trod_array Tryd.underlying102 hd2;have Cb:tP.cellsOf 101=1:=by kernel_rfl
 have vM:tP.cellsOf 102=4:=by kernel_rfl
 rw[vM] at hlen;have cell: ∀{g:Nat} {n:String} {cs:Array Value} {k:Nat} {v:Value},tP.globalNamed n=some g->W.var? tP n=some cs->cs.toList[k]? =some v->W.cell? ⟨g,k,none⟩=some v:=fun hg hv hk=>by
  rw[World.var?_cell hg hv];simpa using hk
 generalize hl2:cs2.toList=l2 at *
 match l2,hlen,xs,hxl with
 | [a0,a1,a2,a3],_,[x0,x1,x2,x3],_=>
  have z0:=hf 0 (by decide);have z1:=hf 1 (by decide);have z2:=hf 2 (by decide);have z3:=hf 3 (by decide);rw[Cb] at z0 z1 z2 z3;simp only[Prod.mk.injEq] at hx;have hx1:=hx.1;simp only[DataW.funcsOut,DataW.funcsOutAll,DataW.agg.injEq,List.map_cons,List.map_nil,List.cons.injEq,and_true] at hx1;obtain⟨y0,y1,y2,y3⟩:=hx1;obtain⟨x0d,x0p⟩:=x0;obtain⟨x1d,x1p⟩:=x1;obtain⟨x2d,x2p⟩:=x2;obtain⟨x3d,x3p⟩:=x3;simp only at y0 y1 y2 y3;subst y0 y1 y2 y3;have w0:=func_of_trod (f0:=146) Tryd.underlying101 (by kernel_rfl) z0;have w1:=func_of_trod (f0:=147) Tryd.underlying101 (by kernel_rfl) z1;have w2:=func_of_trod (f0:=148) Tryd.underlying101 (by kernel_rfl) z2;have w3:=func_of_trod (f0:=149) Tryd.underlying101 (by kernel_rfl) z3;subst w0 w1 w2 w3;exact⟨⟨cell hg2 hv2 (by rw[hl2];rfl),cell hg2 hv2 (by rw[hl2];rfl),cell hg2 hv2 (by rw[hl2];rfl),cell hg2 hv2 (by rw[hl2];rfl)⟩,cell hg0 hv0 (by rw[e0];rfl),cell hg1 hv1 (by rw[e1];rfl),by
   have:=World.block_lt_of_cell? _ _ (cell (k:=0) hg2 hv2 (by rw[hl2];rfl));have hs:tP.globals.size=3:=by kernel_rfl
   rw[hs];exact this⟩
theorem nV (W:World) (a:Addr):(gy W).cell? a=W.cell? a:=by
 have:=jV (gy W) W.tape W.drawn (NU W) a;rw[Fv] at this;exact this.symm
theorem ab5 {W:World} (h:Vars W):Vars (gy W):=
 ⟨⟨by rw[nV];exact h.v2.c0,by rw[nV];exact h.v2.c1,by rw[nV];exact h.v2.c2,by rw[nV];exact h.v2.c3⟩,by rw[nV];exact h.g0,by rw[nV];exact h.g1,by rw[Fz];exact h.gl⟩
theorem ab6 {W:World} {V:BkV} (h:fH W V):fH (gy W) V:=by
 have r: ∀{o:Option Addr},bG W o->bG (gy W) o:=fun h a ha=>by
  obtain⟨c,t,z,e⟩:=h a ha;exact⟨c,t,z,abx e⟩
 exact⟨r h.ta,r h.la,r h.pa⟩
theorem SlB.of_cell {u w:World} (hc: ∀a,u.cell? a=w.cell? a) {sa:Option Addr} {xs:List (Int×Int)} (h:SlB w sa xs):SlB u sa xs:=fun i x hx=>by obtain⟨b,o,e,h0,h1⟩:=h i x hx;exact⟨b,o,e,by rw[hc];exact h0,by rw[hc];exact h1⟩
theorem iw.of_cell {u w:World} (hc: ∀a,u.cell? a=w.cell? a) {V:BkV} {B:Bk} (h:iw w V B):iw u V B:=
 ⟨fun i x hx=>by obtain⟨b,o,e,h0⟩:=h.towns i x hx;exact⟨b,o,e,by rw[hc];exact h0⟩,fun i L hL=>by
  obtain⟨b,o,sa,sc,h1,h2,h3,h4,h5,h6⟩:=h.links i L hL;exact⟨b,o,sa,sc,h1,by rw[hc];exact h2,by rw[hc];exact h3,by rw[hc];exact h4,h5.of_cell hc,h6⟩,fun i L hL=>by
  obtain⟨b,o,sa,sc,h1,h2,h3,h4,h5,h6⟩:=h.pairs i L hL;exact⟨b,o,sa,sc,h1,by rw[hc];exact h2,by rw[hc];exact h3,by rw[hc];exact h4,h5.of_cell hc,h6⟩,h.tc,h.nl,h.np,h.sz,h.pc⟩
theorem ab7 {W w:World} {τ:Nat->Question->Nat} {d d':Nat} {j:aW} (hj: ∀n,n<(gy W).heap.size->j n=rH W n) (hk:Kept (gy W).heap.size (gy W) (w.tp τ d noJ)):Below W.heap.size W (w.tp W.tape d' j):=by
 have hW:W=(gy W).tp W.tape W.drawn (rH W):=(Fv W).symm;refine⟨?_,rfl, ?_, ?_,fun k hlt=> ?_⟩
 ·have:=hk.os;rw[CG] at this ⊢;rw[this];rfl
 ·have:=hk.output;rw[CJ] at this ⊢;rw[this];rfl
 ·have:=hk.size;rw[gJ] at this;rw[gJ,<-Fz W];exact this
 ·have hlt':k<(gy W).heap.size:=by rw[Fz];exact hlt
  have hb:=hk.block k hlt';rw[oG] at hb
  conv=>rhs;rw[hW]
  rw[dX,dX,hb]
  congr 1
  funext o
  unfold fQ;rw[hj k hlt']
theorem ab8 {H:Type} {enc:TypeId×Value->H} {fn:Func} {s:ChangeSpec} {W w':World} {args:Array Value} {ds:List (DataW H)} {ps:List MemPlace} (hrt:fn.resultTypes= #[4]) (hW:DataW.Whole enc tP fn.params.toList s.vars false W args.toList ds [] ps)
  (hargs: ∀W':World,Below W.heap.size W W'-> ∃pa,DataW.TrodAll enc tP W' 0 (fun b=>decide (b<W.heap.size)) true fn.params.toList args.toList ds pa)
  (hsv:s.vars= []) (hsp:s.fn H (ds++ [])={results:= [.lit (.bool true)],args:=ds}) (hb:Below W.heap.size W w'):s.post enc tP fn false true false false W args (.bool true) w':=by
 obtain⟨pa,ha⟩:=hargs w' hb;refine⟨ds,[],ps,[],pa,[],hW, ?_, ?_, ?_,hb.frame _,fun h=>by cases h⟩
 ·rw[hsp,hrt];exact trodAll_mk1 (shut_bool Tryd.underlying4 true)
 ·rw[hsp];exact ha
 ·rw[hsv,hsp];rfl
end Go.Proofs.YtaikibfkggglgaaDoor
namespace Go.Proofs.YtaikibfkggglgaaDoor
open Go.RowKit Go.Rent Go.Tp Go.Conc
theorem iw.tp {w:World} {V:BkV} {B:Bk} {τ:Nat->Question->Nat} {d:Nat} (h:iw w V B):iw (w.tp τ d noJ) V B:=
 ⟨h.towns.tp,fun i L hL=>by
  obtain⟨b,o,sa,sc,h1,h2,h3,h4,h5,h6⟩:=h.links i L hL;exact⟨b,o,sa,sc,h1,by rw[bV];exact h2,by rw[bV];exact h3,by rw[bV];exact h4,h5.tp,h6⟩,fun i L hL=>by
  obtain⟨b,o,sa,sc,h1,h2,h3,h4,h5,h6⟩:=h.pairs i L hL;exact⟨b,o,sa,sc,h1,by rw[bV];exact h2,by rw[bV];exact h3,by rw[bV];exact h4,h5.tp,h6⟩,h.tc,h.nl,h.np,h.sz,h.pc⟩
theorem SlH.kept {w w':World} {sa:Option Addr} {xs:List Int} (h:SlH w sa xs) (hk:Kept w.heap.size w w'):SlH w' sa xs:=by
 have:=(h.below hk.below (Nat.le_refl _)).tp (τ:=w'.tape) (d:=w'.drawn);rwa [dS,dh] at this
theorem ab9 {B:Bk} (h:oO B=true):dP B=false/\B.alarm=0:=by
 unfold oO at h;simpa using h
theorem acd {w u:World} {b1:Nat} {V:BkV} {B:Bk} (hs:iw w V B) (hr:fH w V) (hv:Vars w) (hg:dP B=false) (hk:Kept w.heap.size w u)
  (hc:u.cell? ⟨b1,0,none⟩=some (.int .i64 B.hours)/\u.cell? ⟨b1,1,none⟩=some (.slice V.ta B.towns.length V.tc)/\u.cell? ⟨b1,2,none⟩=some (.slice V.la B.links.length V.lc)/\u.cell? ⟨b1,3,none⟩=some (.slice V.pa B.pairs.length V.pc)):dL u b1 V B:=
 ⟨hc.1,hc.2.1,hc.2.2.1,hc.2.2.2,(hs.in hg).1.kept hk,hr.kept hk,hv.kept hk⟩
theorem vG {B:Bk} {xs:List Int} (ha:B.alarm=0) (hl:xs.length=B.links.length) (hb:dN xs=false):aH B xs true=0:=by
 unfold aH;rw[if_pos ha,if_pos hl,hb];rfl
theorem FK {B:Bk} {xs:List Int} (hr:aH B xs true=0):jA B xs= .tuple #[.int .i64 (aQ B (trk xs) B.hours.toNat 0 1),.int .i64 0]:=by
 unfold jA;rw[if_pos hr]
theorem ace {P:Program} {Q:List Item->Act->World->Prop} {a:Act} {w:World} {it:List Item} {c:Operand} {x y:Code} {t:Bool} (hc:a.eval c= .bool t) (h:Comes P (.code (if t then x else y)::it) Q a w):Comes P (.code (.cond c x y)::it) Q a w:=sS (fun _ _ _=>step_cond hc) h
theorem acf (n:Nat) (h1:1<=n) (h6:n<=6) (w:World):(Instr.makeSlice 27 (.int .i64 (n:Int)) (.int .i64 (n:Int))).run tP w= .ok (.slice (some ⟨w.heap.size,0,none⟩) n n) (w.alloc (.cells (Array.replicate n (.int .i64 0)) 3)):=by
 obtain rfl |rfl |rfl |rfl |rfl |rfl:n=1\/n=2\/n=3\/n=4\/n=5\/n=6:=by omega
 all_goals kernel_rfl
theorem acg (n:Nat) (w:World):iO (w.alloc (.cells (Array.replicate n (.int .i64 0)) 3)) w.heap.size (List.replicate n 0):=by
 have hr:(w.alloc (.cells (Array.replicate n (.int .i64 0)) 3)).heap[w.heap.size]? =some (.cells (Array.replicate n (.int .i64 0)) 3 (0,0)):=(MapKept.heap_alloc w _).1;refine⟨by simp,fun i x hx=>⟨w.heap.size,0,rfl, ?_⟩,fun j=>by unfold World.frozen?;dsimp only;rw[hr];simp⟩;have hi:=(lS.1 hx).1;have hx0:x=0:=by
  have:=(lS.1 hx).2;rw[List.getElem_replicate] at this;exact this.symm
 simp only[List.length_replicate] at hi;subst hx0;unfold World.cell?;dsimp only;rw[hr];simp[hi]
theorem iO.kept {w w':World} {b:Nat} {xs:List Int} (h:iO w b xs) (hk:Kept w.heap.size w w'):iO w' b xs:=
 ⟨Nat.lt_of_lt_of_le h.lt hk.size,h.sl.kept hk,fun j=>(hk.frozen (p:=⟨b,j,none⟩) h.lt).trans (h.free j)⟩
theorem iO.below {w w':World} {b:Nat} {xs:List Int} (h:iO w b xs) (hb:Below w.heap.size w w'):iO w' b xs:=h.kept (Kept.of_below hb)
theorem ach {n:Nat} {w w':World} (h:Kept n w w') {p:Addr} (hp:n<=p.block) (v:Value):Kept n w (w'.setCell p v):=
 ⟨h.os,h.output,by rw[World.size_setCell];exact h.size,fun j hj=>by
  rw[<-h.block j hj];exact qy w' p v (by omega)⟩
theorem FM {ops:Array Oper} {a:Act} {o:Oper} {j dd:Nat} {b:Bool} (hg:o.guard=some (j,b)) (hd:(ops[j]?.bind fun x=>x.dst)=some dd) (hlt:dd<a.tmps.size) (h:a.tmps[dd]?.getD ud= .bool b):Region.wanted o (yielded ops a.tmps)=true:=by
 unfold Region.wanted yielded;rw[hg];simp only[hd,Option.bind_some];rw[aG hlt] at h ⊢;simp only[Option.getD_some] at h;rw[h];simp
theorem aci {xs:List Int} {k:Nat} (hk:k<xs.length) (y:Int):trk (xs.set k y)=fup (trk xs) k y:=by
 funext j
 unfold trk fup;simp only[List.getD_eq_getElem?_getD];by_cases e:j=k
 ·subst e;rw[List.getElem?_set_self hk,if_pos rfl];rfl
 ·rw[List.getElem?_set_ne (Ne.symm e),if_neg e]
theorem acj {xs:List Int} {k:Nat} {y:Int} (h:dN xs=false) (hy:0<=y/\y<=20):dN (xs.set k y)=false:=by
 unfold dN at h ⊢;rw[List.any_eq_false] at h ⊢;intro z hz
 rcases List.mem_or_eq_of_mem_set hz with h1 |h1
 ·exact h z h1
 ·subst h1;simp[btw];omega
theorem SlH.of_cell {u w:World} (hc: ∀a,u.cell? a=w.cell? a) {sa:Option Addr} {xs:List Int} (h:SlH w sa xs):SlH u sa xs:=fun i x hx=>by obtain⟨b,o,e,h0⟩:=h i x hx;exact⟨b,o,e,by rw[hc];exact h0⟩
theorem acn (a b c:Value) (n:Nat):(#[a,b,c]++Array.replicate n ud:Array Value)=(a::b::c::List.replicate n ud).toArray:=by simp
theorem aco (Lk:Looks) {p:Pinned} {s:OpenSpec} {c:OpenClaim} (kinds:List LaidKind) (tests:Bool) (har:Bool×String) (lk:Bool)
  (hc:c.holds p s) (hw:c.wfByText s=true) (htie:c.laidByTextAt Lk p kinds tests) (hst:c.start= .entering) (hnb:c.noBlocks=false/\c.again=false) (hm:p.checked.prog.mainIs=some (har.1,har.2.toList)) (hn:(!har.1&&har.2.isEmpty&& !lk)=false)
  (hl: ∀f fn,p.checked.prog.funcNamed c.func=some f->p.checked.prog.funcs[f]? =some fn->lk=p.checked.prog.looks []/\ ∀(j:Nat) t,fn.params[j]? =some t->p.checked.prog.wantsStandIn t=false) (hg:true=c.goesBy p.checked.prog):
  Claim7.holds p (.plain s) {stood:={row:=c,standIns:= [],harness:=har,looks:=lk},kinds:= [],laidByText:=true,laidKinds:=kinds,laidTests:=tests,laidLooks:=Lk,goes:=true}:=by
 have h6:Claim7.isSixth {stood:={row:=c,standIns:= [],harness:=har,looks:=lk},kinds:= []}=false:=by simpa[Claim7.isSixth] using hn
 exact⟨Claim7.tied_new_at Lk kinds tests (Claim7.new_of_sixth hc har lk hst hnb hm h6 hl) hw,(fun D hD=>by cases hD),htie,(fun h=>by cases h),hg⟩
theorem acA {X:World->Prop} (hX: ∀w w',X w->Kept w.heap.size w w'->X w') {w:World} {τ:Nat->Question->Nat} {d:Nat} (h:X (w.tp τ d noJ)):X w:=by
 have:=hX _ _ h (jD (τ:=w.tape) (d:=w.drawn));rwa [dS,dh] at this
theorem acs {g:FuncId} {args:Array Value} {w:World} {X:Value->World->Prop} (hX: ∀v w w',X v w->Kept w.heap.size w w'->X v w') (h: ∀τ,Calls tP g args (w.tp τ 0 noJ) fun e w'=> ∃v,e= .returned v/\X v w'/\Below (w.tp τ 0 noJ).heap.size (w.tp τ 0 noJ) w'):
  iK tP g args w fun v w'=>X v w'/\Kept w.heap.size w w':=
 Ei good (R:=fun v w'=>X v w'/\Kept w.heap.size w w') (fun v _ _ _ ⟨a,b⟩=>⟨acA (X:=X v) (hX v) a,fC.1 b⟩) fun τ=>(h τ).mono fun _ _ ⟨v,e1,x,hb⟩=>⟨v,e1,x,rJ (Kept.refl _ _) hb⟩
section
variable {u:World} {b1:Nat} {V:BkV} {B:Bk} {xs ys:List Int} {xa ya:Option Addr} {xc yc:Nat}
theorem acB (hr:aH B xs true=0) (hl:xs.length=B.links.length):oM B xs= .tuple #[.int .i64 (fZ B (trk xs) B.links.length),.int .i64 0]:=by
 unfold oM;rw[if_pos hr,hl]
theorem acC {n:Nat} (hB:dL u b1 V B) (hx:SlI u xa xs) (hxl:xs.length=n) (hL:n<=1000000):iK tP 40 #[V.val B,.slice xa n xc] u fun v w'=>v=oM B xs/\Kept u.heap.size u w':=by
 subst hxl;exact acs (X:=fun v _=>v=oM B xs) (fun _ _ _ h _=>h) fun τ=>(c40 V B xs xa xc _ (hB.kept jD).book (hB.kept jD).vars (hx.kept jD) hL).mono fun _ _ ⟨e1,hb⟩=>⟨_,e1,rfl,hb⟩
theorem acI (hB:dL u b1 V B) (hx:SlI u xa xs) (hl:xs.length=B.links.length) (hL:B.links.length<=1000000) (hr:aH B xs true=0):iK tP 40 #[V.val B,.slice xa B.links.length xc] u fun v w'=>v= .tuple #[.int .i64 (fZ B (trk xs) B.links.length),.int .i64 0]/\Kept u.heap.size u w':=
 (acC hB hx hl hL).mono fun v w' ⟨e,k⟩=>⟨by rw[e,acB hr hl],k⟩
theorem acJ (V:BkV) (ps:List Int) (sa:Option Addr) (cap:Nat) (hs:SlH u sa ps) (hp: ∀x∈ps,0<=x/\x<=65535) (hl:ps.length<=maxLen) (h1:1<=B.links.length/\B.links.length<=1000000):
  iK tP 31 #[V.val B,.slice sa ps.length cap] u fun v w'=>(∃lb lc,v= .slice (some ⟨lb,0,none⟩) B.links.length lc/\iO w' lb (jQ ps B.links.length)/\u.heap.size<=lb)/\Kept u.heap.size u w':=
 acs (X:=fun v w'=> ∃lb lc,v= .slice (some ⟨lb,0,none⟩) B.links.length lc/\iO w' lb (jQ ps B.links.length)/\u.heap.size<=lb) (fun _ _ _ ⟨a,b,c,d,e⟩ k=>⟨a,b,c,d.kept k,e⟩) fun τ=>
  (c31 B.hours V.ta B.towns.length V.tc V.la B.links.length V.lc V.pa B.pairs.length V.pc ps sa cap _ (hs.kept jD) hp hl h1.2).mono fun _ _ ⟨v,e1,hown,hb⟩=>by
   have hlen:=EL ps B.links.length;rw[<-hlen] at hown;simp only[hlen] at hown;obtain⟨lb,lc,e2,h2,h3,_,_⟩:=BM (xs:=jQ ps B.links.length) (by rw[hlen];exact hown) (by omega);rw[hlen] at e2;rw[jO] at h2;exact⟨v,e1,⟨lb,lc,e2,h3,h2⟩,hb⟩
theorem acK (hB:dL u b1 V B) (ha:B.alarm=0):iK tP 39 #[V.val B] u fun v w'=>(∃fa fc,v= .tuple #[.slice (some ⟨fa,0,none⟩) B.links.length fc,.int .i64 (aC B aT).2,.int .i64 0]/\SlI w' (some ⟨fa,0,none⟩) (aC B aT).1/\(aC B aT).1.length=B.links.length/\u.heap.size<=fa)/\Kept u.heap.size u w':=
 acs (X:=fun v w'=> ∃fa fc,v= .tuple #[.slice (some ⟨fa,0,none⟩) B.links.length fc,.int .i64 (aC B aT).2,.int .i64 0]/\SlI w' (some ⟨fa,0,none⟩) (aC B aT).1/\(aC B aT).1.length=B.links.length/\u.heap.size<=fa) (fun _ _ _ ⟨a,b,c,d,e⟩ k=>⟨a,b,c,d.kept k,e⟩) fun τ=>
  (c39 V B _ (hB.kept jD).book (hB.kept jD).vars).mono fun _ _ ⟨h1,_,hb⟩=>by
   obtain⟨fa,fc,e,hx,hl,_,hs⟩:=h1 ha;rw[hl] at e;rw[jO] at hs;exact⟨_,e,⟨fa,fc,rfl,hx,hl,hs⟩,hb⟩
theorem acL {n m:Nat} (hx:SlI u xa xs) (hy:SlI u ya ys) (hxl:xs.length=n) (hyl:ys.length=m) (hn:n<=1000000) (hm:m<=1000000):iK tP 41 #[.slice xa n xc,.slice ya m yc] u fun v w'=>v= .bool (iq xs ys)/\Kept u.heap.size u w':=by
 subst hxl hyl;exact acs (X:=fun v _=>v= .bool (iq xs ys)) (fun _ _ _ h _=>h) fun τ=>(c41 xs ys xa ya xc yc _ (hx.kept jD) (hy.kept jD) hn hm).mono fun _ _ ⟨e1,hb⟩=>⟨_,e1,rfl,hb⟩
theorem acM (n a b:Int):iK tP 37 #[.int .i64 n,.int .i64 a,.int .i64 b] u fun v w'=>v= .bool (btw n a b)/\Kept u.heap.size u w':=
 acs (X:=fun v _=>v= .bool (btw n a b)) (fun _ _ _ h _=>h) fun τ=>(c37 n a b _).mono fun _ _ ⟨e1,hb⟩=>⟨_,e1,rfl,by rw[hb];exact Below.refl _ _⟩
theorem acN (hB:dL u b1 V B) (hx:SlI u xa xs) (hl:xs.length=B.links.length) (hL:B.links.length<=1000000) (hr:aH B xs true=0):iK tP 21 #[V.val B,.slice xa B.links.length xc] u fun v w'=>v= .tuple #[.int .i64 (aQ B (trk xs) B.hours.toNat 0 1),.int .i64 0]/\Kept u.heap.size u w':=by
 have h:=qO u V B xs xa xc hB.book hB.rows hB.vars hx (by omega);rw[hl] at h;exact h.mono fun v w' ⟨e,k⟩=>⟨by rw[e,FK hr],k⟩
end
section
variable {f:FuncId} {N d s t:Nat} {a:Act} {w:World} {l:List (Nat×Value)} {ops:Array Oper} {i:Nat} {rest:List Nat} {kk:List Item} {R:Value->World->Prop} {o:Oper}
def acu (v:Value):Option Bool:=match v with
 | .bool b=>some b
 |_=>none
theorem acO {dd j:Nat} {b:Bool} {v:Value} (hS:Sl a N l) (h: ∀a',Sl a' N ((d,ud)::l)->GL tP f (.inRegion ops rest::kk) R a' w) (hv:a.tmps[dd]?.getD ud=v)
  (ho:ops[i]? =some o:=by rfl) (hg:o.guard=some (j,b):=by rfl) (hj:(ops[j]?.bind fun x=>x.dst)=some dd:=by rfl) (hdst:o.dst=some d:=by rfl) (hd:d<N:=by decide) (hlt:dd<N:=by decide) (hn:(l.map (·.1)).contains d=false:=by rfl) (hbc:(acu v==some b)=false:=by rfl):
  GL tP f (.inRegion ops (i::rest)::kk) R a w:=by
 have hw:Region.wanted o (yielded ops a.tmps)=false:=by
  unfold Region.wanted yielded;rw[hg];simp only[hj,Option.bind_some];rw[<-hS.1] at hlt;rw[aG hlt] at hv ⊢;simp only[Option.getD_some] at hv;rw[hv]
  cases v with
  |bool c=>simpa[acu] using hbc
  |_=>rfl
 refine Bf good ho hw ?_;have:=h _ (hS.put hd hn (v:=ud));rw[<-hdst] at this;exact this
theorem acP {b L c k:Nat} (hS:Sl a N l) (hk:k<L) (h: ∀a',Sl a' N ((d,.pointer (some ⟨b,k,none⟩))::l)->GL tP f (.inRegion ops rest::kk) R a' w)
  (ho:ops[i]? =some o:=by rfl) (hw:Region.wanted o (yielded ops a.tmps)=true:=by rfl) (hdst:o.dst=some d:=by rfl) (hd:d<N:=by decide) (hn:(l.map (·.1)).contains d=false:=by rfl) (hp:o.op= .indexAddr 27 (.tmp s) (.tmp t):=by rfl) (hs:a.tmps[s]?.getD ud= .slice (some ⟨b,0,none⟩) L c:=by have h:=(‹Sl _ _ _›).2.2;simp only[SlA] at h;simp only[h]) (ht:a.tmps[t]?.getD ud= .int .i64 (k:Int):=by have h:=(‹Sl _ _ _›).2.2;simp only[SlA] at h;simp only[h]):GL tP f (.inRegion ops (i::rest)::kk) R a w:=vg hS ho hw hdst hd hn (fun τ=>by
   have hki:(k:Int)<(L:Int):=by omega
   obtain⟨dd,oo,ty,po,af,gu⟩:=o;simp only at hp;subst hp;go_simp) h
theorem acQ {b k:Nat} {x:Int} (hS:Sl a N l) (hc:w.cell? ⟨b,k,none⟩=some (.int .i64 x)) (h: ∀a',Sl a' N ((d,.int .i64 x)::l)->GL tP f (.inRegion ops rest::kk) R a' w)
  (ho:ops[i]? =some o:=by rfl) (hw:Region.wanted o (yielded ops a.tmps)=true:=by rfl) (hdst:o.dst=some d:=by rfl) (hd:d<N:=by decide) (hn:(l.map (·.1)).contains d=false:=by rfl) (hp:o.op= .load 3 (.tmp s):=by rfl) (hs:a.tmps[s]?.getD ud= .pointer (some ⟨b,k,none⟩):=by have h:=(‹Sl _ _ _›).2.2;simp only[SlA] at h;simp only[h]):GL tP f (.inRegion ops (i::rest)::kk) R a w:=vg hS ho hw hdst hd hn (fun τ=>by
   have hc:(w.tp τ 0 noJ).cell? ⟨b,k,none⟩=some (.int .i64 x):=by rw[bV];exact hc
   obtain⟨dd,oo,ty,po,af,gu⟩:=o;simp only at hp;subst hp;go_simp) h
theorem acR {b1:Nat} {V:BkV} {B:Bk} (hS:Sl a N l) (hB:dL w b1 V B) (h: ∀a',Sl a' N ((d,.pointer (some ⟨b1,0,none⟩))::l)->GL tP f (.inRegion ops rest::kk) R a' w)
  (ho:ops[i]? =some o:=by rfl) (hw:Region.wanted o (yielded ops a.tmps)=true:=by rfl) (hdst:o.dst=some d:=by rfl) (hd:d<N:=by decide) (hn:(l.map (·.1)).contains d=false:=by rfl) (hp:o.op= .fieldAddr 26 (.tmp s) 0:=by rfl) (hs:a.tmps[s]?.getD ud= .pointer (some ⟨b1,0,none⟩):=by have h:=(‹Sl _ _ _›).2.2;simp only[SlA] at h;simp only[h]):GL tP f (.inRegion ops (i::rest)::kk) R a w:=vg hS ho hw hdst hd hn (fun τ=>by
   have c0:=(hB.kept (u':=w.tp τ 0 noJ) jD).c0;obtain⟨dd,oo,ty,po,af,gu⟩:=o;simp only at hp;subst hp;go_simp) h
theorem acS {b1:Nat} {V:BkV} {B:Bk} (hS:Sl a N l) (hB:dL w b1 V B) (h: ∀a',Sl a' N ((d,.pointer (some ⟨b1,1,none⟩))::l)->GL tP f (.inRegion ops rest::kk) R a' w)
  (ho:ops[i]? =some o:=by rfl) (hw:Region.wanted o (yielded ops a.tmps)=true:=by rfl) (hdst:o.dst=some d:=by rfl) (hd:d<N:=by decide) (hn:(l.map (·.1)).contains d=false:=by rfl) (hp:o.op= .fieldAddr 26 (.tmp s) 1:=by rfl) (hs:a.tmps[s]?.getD ud= .pointer (some ⟨b1,0,none⟩):=by have h:=(‹Sl _ _ _›).2.2;simp only[SlA] at h;simp only[h]):GL tP f (.inRegion ops (i::rest)::kk) R a w:=vg hS ho hw hdst hd hn (fun τ=>by
   have c0:=(hB.kept (u':=w.tp τ 0 noJ) jD).c0;obtain⟨dd,oo,ty,po,af,gu⟩:=o;simp only at hp;subst hp;go_simp) h
theorem acT {b1:Nat} {V:BkV} {B:Bk} (hS:Sl a N l) (hB:dL w b1 V B) (h: ∀a',Sl a' N ((d,.pointer (some ⟨b1,2,none⟩))::l)->GL tP f (.inRegion ops rest::kk) R a' w)
  (ho:ops[i]? =some o:=by rfl) (hw:Region.wanted o (yielded ops a.tmps)=true:=by rfl) (hdst:o.dst=some d:=by rfl) (hd:d<N:=by decide) (hn:(l.map (·.1)).contains d=false:=by rfl) (hp:o.op= .fieldAddr 26 (.tmp s) 2:=by rfl) (hs:a.tmps[s]?.getD ud= .pointer (some ⟨b1,0,none⟩):=by have h:=(‹Sl _ _ _›).2.2;simp only[SlA] at h;simp only[h]):GL tP f (.inRegion ops (i::rest)::kk) R a w:=vg hS ho hw hdst hd hn (fun τ=>by
   have c0:=(hB.kept (u':=w.tp τ 0 noJ) jD).c0;obtain⟨dd,oo,ty,po,af,gu⟩:=o;simp only at hp;subst hp;go_simp) h
theorem acU {b1:Nat} {V:BkV} {B:Bk} (hS:Sl a N l) (hB:dL w b1 V B) (h: ∀a',Sl a' N ((d,.pointer (some ⟨b1,3,none⟩))::l)->GL tP f (.inRegion ops rest::kk) R a' w)
  (ho:ops[i]? =some o:=by rfl) (hw:Region.wanted o (yielded ops a.tmps)=true:=by rfl) (hdst:o.dst=some d:=by rfl) (hd:d<N:=by decide) (hn:(l.map (·.1)).contains d=false:=by rfl) (hp:o.op= .fieldAddr 26 (.tmp s) 3:=by rfl) (hs:a.tmps[s]?.getD ud= .pointer (some ⟨b1,0,none⟩):=by have h:=(‹Sl _ _ _›).2.2;simp only[SlA] at h;simp only[h]):GL tP f (.inRegion ops (i::rest)::kk) R a w:=vg hS ho hw hdst hd hn (fun τ=>by
   have c0:=(hB.kept (u':=w.tp τ 0 noJ) jD).c0;obtain⟨dd,oo,ty,po,af,gu⟩:=o;simp only at hp;subst hp;go_simp) h
theorem acV {b1:Nat} {V:BkV} {B:Bk} (hS:Sl a N l) (hB:dL w b1 V B) (h: ∀a',Sl a' N ((d,.int .i64 B.hours)::l)->GL tP f (.inRegion ops rest::kk) R a' w)
  (ho:ops[i]? =some o:=by rfl) (hw:Region.wanted o (yielded ops a.tmps)=true:=by rfl) (hdst:o.dst=some d:=by rfl) (hd:d<N:=by decide) (hn:(l.map (·.1)).contains d=false:=by rfl) (hp:o.op= .load 3 (.tmp s):=by rfl) (hs:a.tmps[s]?.getD ud= .pointer (some ⟨b1,0,none⟩):=by have h:=(‹Sl _ _ _›).2.2;simp only[SlA] at h;simp only[h]):GL tP f (.inRegion ops (i::rest)::kk) R a w:=vg hS ho hw hdst hd hn (fun τ=>by
   have c0:=(hB.kept (u':=w.tp τ 0 noJ) jD).c0;obtain⟨dd,oo,ty,po,af,gu⟩:=o;simp only at hp;subst hp;go_simp) h
theorem acW {b1:Nat} {V:BkV} {B:Bk} (hS:Sl a N l) (hB:dL w b1 V B) (h: ∀a',Sl a' N ((d,.slice V.ta B.towns.length V.tc)::l)->GL tP f (.inRegion ops rest::kk) R a' w)
  (ho:ops[i]? =some o:=by rfl) (hw:Region.wanted o (yielded ops a.tmps)=true:=by rfl) (hdst:o.dst=some d:=by rfl) (hd:d<N:=by decide) (hn:(l.map (·.1)).contains d=false:=by rfl) (hp:o.op= .load 22 (.tmp s):=by rfl) (hs:a.tmps[s]?.getD ud= .pointer (some ⟨b1,1,none⟩):=by have h:=(‹Sl _ _ _›).2.2;simp only[SlA] at h;simp only[h]):GL tP f (.inRegion ops (i::rest)::kk) R a w:=vg hS ho hw hdst hd hn (fun τ=>by
   have c0:=(hB.kept (u':=w.tp τ 0 noJ) jD).c1;obtain⟨dd,oo,ty,po,af,gu⟩:=o;simp only at hp;subst hp;go_simp) h
theorem acX {b1:Nat} {V:BkV} {B:Bk} (hS:Sl a N l) (hB:dL w b1 V B) (h: ∀a',Sl a' N ((d,.slice V.la B.links.length V.lc)::l)->GL tP f (.inRegion ops rest::kk) R a' w)
  (ho:ops[i]? =some o:=by rfl) (hw:Region.wanted o (yielded ops a.tmps)=true:=by rfl) (hdst:o.dst=some d:=by rfl) (hd:d<N:=by decide) (hn:(l.map (·.1)).contains d=false:=by rfl) (hp:o.op= .load 23 (.tmp s):=by rfl) (hs:a.tmps[s]?.getD ud= .pointer (some ⟨b1,2,none⟩):=by have h:=(‹Sl _ _ _›).2.2;simp only[SlA] at h;simp only[h]):GL tP f (.inRegion ops (i::rest)::kk) R a w:=vg hS ho hw hdst hd hn (fun τ=>by
   have c0:=(hB.kept (u':=w.tp τ 0 noJ) jD).c2;obtain⟨dd,oo,ty,po,af,gu⟩:=o;simp only at hp;subst hp;go_simp) h
theorem acY {b1:Nat} {V:BkV} {B:Bk} (hS:Sl a N l) (hB:dL w b1 V B) (h: ∀a',Sl a' N ((d,.slice V.pa B.pairs.length V.pc)::l)->GL tP f (.inRegion ops rest::kk) R a' w)
  (ho:ops[i]? =some o:=by rfl) (hw:Region.wanted o (yielded ops a.tmps)=true:=by rfl) (hdst:o.dst=some d:=by rfl) (hd:d<N:=by decide) (hn:(l.map (·.1)).contains d=false:=by rfl) (hp:o.op= .load 24 (.tmp s):=by rfl) (hs:a.tmps[s]?.getD ud= .pointer (some ⟨b1,3,none⟩):=by have h:=(‹Sl _ _ _›).2.2;simp only[SlA] at h;simp only[h]):GL tP f (.inRegion ops (i::rest)::kk) R a w:=vg hS ho hw hdst hd hn (fun τ=>by
   have c0:=(hB.kept (u':=w.tp τ 0 noJ) jD).c3;obtain⟨dd,oo,ty,po,af,gu⟩:=o;simp only at hp;subst hp;go_simp) h
theorem acZ {q:Int} (hS:Sl a N l) (hq:0<=q/\q<=255) (h: ∀a',Sl a' N ((d,.int .i64 q)::l)->GL tP f (.inRegion ops rest::kk) R a' w)
  (ho:ops[i]? =some o:=by rfl) (hw:Region.wanted o (yielded ops a.tmps)=true:=by rfl) (hdst:o.dst=some d:=by rfl) (hd:d<N:=by decide) (hn:(l.map (·.1)).contains d=false:=by rfl) (hp:o.op= .convert 5 3 (.tmp s):=by rfl) (hs:a.tmps[s]?.getD ud= .int .u8 q:=by have h:=(‹Sl _ _ _›).2.2;simp only[SlA] at h;simp only[h]):GL tP f (.inRegion ops (i::rest)::kk) R a w:=vg hS ho hw hdst hd hn (fun τ=>by
   have hwq:IntKind.wrap .i64 q=q:=IntWalk.i64_in _ (by omega);obtain⟨dd,oo,ty,po,af,gu⟩:=o;simp only at hp;subst hp;go_simp) h
theorem ac0 {q:Int} {n k:Nat} (hS:Sl a N l) (hq:0<=q/\q<=65535) (hn1:1<=n) (hk:(k:Int)=q % (n:Int)) (h: ∀a',Sl a' N ((d,.int .i64 (k:Int))::l)->GL tP f (.inRegion ops rest::kk) R a' w)
  (ho:ops[i]? =some o:=by rfl) (hw:Region.wanted o (yielded ops a.tmps)=true:=by rfl) (hdst:o.dst=some d:=by rfl) (hd:d<N:=by decide) (hn:(l.map (·.1)).contains d=false:=by rfl) (hp:o.op= .binOp .rem 3 (.tmp s) (.tmp t) 3:=by rfl) (hs:a.tmps[s]?.getD ud= .int .i64 q:=by have h:=(‹Sl _ _ _›).2.2;simp only[SlA] at h;simp only[h]) (ht:a.tmps[t]?.getD ud= .int .i64 (n:Int):=by have h:=(‹Sl _ _ _›).2.2;simp only[SlA] at h;simp only[h]):GL tP f (.inRegion ops (i::rest)::kk) R a w:=vg hS ho hw hdst hd hn (fun τ=>by
   have h1:((q.toNat % n:Nat):Int)=(k:Int):=by rw[Int.natCast_emod,Int.toNat_of_nonneg hq.1,hk]
   have h2:=Nat.mod_le q.toNat n;have hkn:(k:Int)<=65535:=by omega
   have hrem:Int.tmod q (n:Int)=(k:Int):=by rw[hk];exact Int.tmod_eq_emod_of_nonneg hq.1
   have hn0: ¬n=0:=by omega
   have hnz:((n:Int)==0)=false:=by rw[beq_eq_false_iff_ne];omega
   have hwk:IntKind.wrap .i64 (k:Int)=(k:Int):=IntWalk.i64_in _ (by omega);obtain⟨dd,oo,ty,po,af,gu⟩:=o;simp only at hp;subst hp;go_simp) h
theorem ac1 {k:Nat} (hS:Sl a N l) (hk:k<=1000000) (h: ∀a',Sl a' N ((d,.int .i64 ((k+1 :Nat):Int))::l)->GL tP f (.inRegion ops rest::kk) R a' w)
  (ho:ops[i]? =some o:=by rfl) (hw:Region.wanted o (yielded ops a.tmps)=true:=by rfl) (hdst:o.dst=some d:=by rfl) (hd:d<N:=by decide) (hn:(l.map (·.1)).contains d=false:=by rfl) (hp:o.op= .binOp .add 3 (.tmp s) (.const (.int .i64 1)) 3:=by rfl) (hs:a.tmps[s]?.getD ud= .int .i64 (k:Int):=by have h:=(‹Sl _ _ _›).2.2;simp only[SlA] at h;simp only[h]):GL tP f (.inRegion ops (i::rest)::kk) R a w:=vg hS ho hw hdst hd hn (fun τ=>by
   have hw1:IntKind.wrap .i64 ((k:Int)+1)=(k:Int)+1:=IntWalk.i64_in _ (by omega);have hk1:((k+1 :Nat):Int)=(k:Int)+1:=by omega
   rw[hk1];obtain⟨dd,oo,ty,po,af,gu⟩:=o;simp only at hp;subst hp;go_simp) h
theorem ac2 {x y:Code} (e:x=y) (h:GL tP f (.code y::kk) R a w):GL tP f (.code x::kk) R a w:=e▸h
end
end Go.Proofs.YtaikibfkggglgaaDoor
