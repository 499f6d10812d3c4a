/- A part of the proof of a law; no conditions of its own. -/
import Derived.Test.YtfiiffnbggnkfaaDoorAv07
import Derived.Conc.CrowdTrace
import Derived.Conc.CrowdSel
open Go renaming Frame→fR, Goroutine→gO, Program→pQ, World→wD
set_option maxRecDepth 100000
open Nat renaming le_refl→nR
open List renaming getElem?_eq_getElem→lG
open Array renaming getElem?_eq_getElem→aG
open Option.some renaming injEq→oI
open List renaming getD_eq_getElem?_getD→lD
set_option maxHeartbeats 4000000
namespace Go.Tp
section
open Go.Conc (mem_seen)
section
variable {P:pQ} {F:FuncId->Bool} {Gl:Nat->Bool} {tl:List fR} {R:Rl}
theorem DF {fr fr':fR} (h:VRs F R fr.tmps fr'.tmps) (hG: ∀x,Gl x=true->R.rel x x):ER F Gl R fr.eval fr'.eval:=by
 intro x hx
 cases x with
 |tmp t=>exact h.getD t
 |const v=>exact DC hx
 |global g=>exact .pointer (.mk 0 none (hG g hx))
 |func f=>exact .func f hx rfl (fun i v v' e=>by simp at e) rfl (fun i v v' e=>by simp at e)
theorem JU {id:Nat}: ∀{k k':List Item},exitTo id k=some k'-> ∀it∈k',it∈k
 | [],_,h=>by cases h
 |x::k,k',h=>by
  have go:exitTo id k=some k'-> ∀it∈k',it∈x::k:=fun e it hit=>List.mem_cons_of_mem _ (JU e it hit)
  cases x with
  |inBlock b=>
   simp only[exitTo] at h
   split at h
   ·cases h;exact fun it hit=>List.mem_cons_of_mem _ hit
   ·exact go h
  |_=>exact go h
theorem VL {ops:Array Oper} {a a':Array Value} (h:VRs F R a a'):yielded ops a=yielded ops a':=by
 funext j
 unfold yielded
 cases hd:(ops[j]?).bind (·.dst) with
 |none=>rfl
 |some d=>
  simp only[Option.bind_some]
  cases e:a[d]? with
  |none=>
   have:a'[d]? =none:=by
    rw[Array.getElem?_eq_none_iff] at e ⊢;rw[<-h.size];exact e
   rw[this]
  |some v=>
   obtain⟨v',e',hv⟩:=h.hit e;rw[e']
   cases hv with
   |poison hs=>cases v'<;>first |rfl |exact hs.elim
   |_=>rfl
theorem VN {fr:fR} {cs:List fR} {o:Oper} (h:(match o.op with | .send .. =>true |_=>false)=true) {w:wD} {g1:gO} {w1:wD} {es:Array Event}:
  stepG.apply P true fr cs none (execOp fr.eval o) w≠ .go g1 w1 es:=by
 intro hs;obtain⟨dst,op,ty,pos,after,guard⟩:=o;dsimp only at h
 split at h
 ·unfold stepG.apply at hs;obtain⟨_,e⟩:=ou hs
  cases e
 ·cases h
theorem JV {fr fr':fR} (h:FrR P F Gl R fr fr') {todo:List Item} (ht: ∀it∈todo,jK P F Gl it=true):FrR P F Gl R {fr with todo} {fr' with todo}:=
 ⟨h.fn,h.known,rfl,ht,h.defers,h.defers',h.mode,h.kind,h.kind',h.round,h.round',h.tmps⟩
theorem VO {fr fr':fR} (h:FrR P F Gl R fr fr') (m:FrameMode):FrR P F Gl R {fr with mode:=m} {fr' with mode:=m}:=
 ⟨h.fn,h.known,h.todo,h.items,h.defers,h.defers',rfl,h.kind,h.kind',h.round,h.round',h.tmps⟩
abbrev oz (P:pQ) (F:FuncId->Bool) (Gl:Nat->Bool) (tl:List fR) (R:Rl) (u:wD) (s':GStep) (g1:gO) (w1:wD):Prop:=
 ∃R2 g1' u1 es',R.le R2/\s'= .go g1' u1 es'/\GoK P F Gl tl R2 g1 g1'/\WR P F R2 w1 u1/\Fr R R2 u u1/\ ∀e∈es',EvR R2 e
section
variable {mn:Bool} {fr fr':fR} {cs cs':List fR} {w u w1:wD} {g1:gO} {es:Array Event}
theorem DI (hc:FrL P F Gl tl R cs cs') (hcm: ∀x∈cs,x.mode= .run) (hw:WR P F R w u) {fr1 fr1':fR} (hnk:cs= []\/fr1.kind= .normal) (h1:FrR P F Gl R fr1 fr1') (hm:fr1.mode= .run\/fr1.mode= .returning)
  (h:GStep.go {frame:=fr1,callers:=cs,status:= .running,dying:=none} w #[]= .go g1 w1 es):
  oz P F Gl tl R u (.go {frame:=fr1',callers:=cs',status:= .running,dying:=none} u #[]) g1 w1:=by
 rw[GStep.go.injEq] at h;obtain⟨rfl,rfl,_⟩:=h;exact⟨R,_,u,#[],.refl R,rfl,⟨h1,hc,rfl,rfl,rfl,rfl,hm,hcm,hnk⟩,hw,.refl R u,fun e he=>by simp at he⟩
theorem VP (G:Good P) (hF:FC P F Gl) (hG: ∀x,Gl x=true->R.rel x x) (hf:FrR P F Gl R fr fr') (hm:fr.mode= .run) (hc:FrL P F Gl tl R cs cs') (hcm: ∀x∈cs,x.mode= .run) (hnk:cs= []\/fr.kind= .normal) (hw:WR P F R w u) (hst:Started w)
  (hok: ∀o,fr.oper?=some o->iP true o=true) (h:stepG.oper P true fr cs none w= .go g1 w1 es) (hnd: ¬jw P g1):
  oz P F Gl tl R u (stepG.oper P true fr' cs' none u) g1 w1:=by
 have ho':fr'.oper?=fr.oper?:=by unfold Frame.oper?;rw[hf.todo]
 unfold stepG.oper at h ⊢;rw[ho']
 cases ho:fr.oper? with
 |none=>rw[ho] at h;cases h
 |some o=>
  rw[ho] at h;simp only[hf.round,hf.round'] at h ⊢;have hoc:opC P F Gl o=true:=by
   unfold Frame.oper? at ho
   split at ho
   ·rename_i ops i rest k heq;have:=hf.items _ (by rw[heq];exact List.mem_cons_self ..);simp only[jK,Array.all_eq_true_iff_forall_mem] at this;exact this o (Array.mem_of_getElem? ho)
   ·cases ho
  unfold opC at hoc
  rcases Bool.or_eq_true _ _▸hoc with h1 |h1
  ·exact sD G hF hf hm hc hcm hnk (VF hF.ok h1 (DF hf.tmps hG)) (IZ G.funcs _ (fun _=>rfl) o (hok o ho)) hw hst h hnd
  ·exact absurd h (VN h1)
theorem VQ (G:Good P) (hF:FC P F Gl) (hG: ∀x,Gl x=true->R.rel x x) (hf:FrR P F Gl R fr fr') (hfo:aP fr) (hm:fr.mode= .run) (hc:FrL P F Gl tl R cs cs') (hcm: ∀x∈cs,x.mode= .run) (hnk:cs= []\/fr.kind= .normal) (hw:WR P F R w u) (hst:Started w)
    (h:stepG.exec P true true fr cs none w= .go g1 w1 es) (hnd: ¬jw P g1):
    oz P F Gl tl R u (stepG.exec P mn true fr' cs' none u) g1 w1:=by
  have hop: ∀o,fr.oper?=some o->iP true o=true:=by
    intro o ho;unfold Frame.oper? at ho
    split at ho
    · rename_i ops i rest k heq
      have:=hfo.items _ (by rw[heq];exact List.mem_cons_self ..);simp only[jW,hf.round,Option.isNone_none,Array.all_eq_true_iff_forall_mem] at this;exact this o (Array.mem_of_getElem? ho)
    · cases ho
  have oper:=VP G hF hG hf hm hc hcm hnk hw hst hop (g1:=g1) (w1:=w1) (es:=es);obtain⟨fn,tmps,todo,defers,mode,kind,round⟩:=fr;obtain⟨fn',tmps',todo',defers',mode',kind',round'⟩:=fr';obtain⟨q1,q2,q3,q4,q5,q6,q7,q8,q9,q10,q11,q12⟩:=id hf;simp only at q1 q2 q3 q4 q5 q6 q7 q8 q9 q10 q11 q12 hm;subst q1 q3 q5 q6 q7 q9 q10 q11;have tail: ∀it k,todo'=it::k-> ∀x∈k,jK P F Gl x=true:=fun it k e x hx=>hf.items x (by rw[e];exact List.mem_cons_of_mem _ hx);have head: ∀it k,todo'=it::k->jK P F Gl it=true:=fun it k e=>hf.items it (by rw[e];exact List.mem_cons_self ..);have to: ∀todo,(∀it∈todo,jK P F Gl it=true)->GStep.go {frame:={fn:=fn',tmps,todo,defers:= [],mode:=mode',kind:=kind'},callers:=cs,status:= .running,dying:=none} w #[]= .go g1 w1 es->
      oz P F Gl tl R u (.go {frame:={fn:=fn',tmps:=tmps',todo,defers:= [],mode:=mode',kind:=kind'},callers:=cs',status:= .running,dying:=none} u #[]) g1 w1:=fun todo ht e=>DI hc hcm hw (by exact hnk) (JV hf ht) (.inl hm) e
  have ret:GStep.go {frame:={fn:=fn',tmps,todo:=todo',defers:= [],mode:= .returning,kind:=kind'},callers:=cs,status:= .running,dying:=none} w #[]= .go g1 w1 es->
      oz P F Gl tl R u (.go {frame:={fn:=fn',tmps:=tmps',todo:=todo',defers:= [],mode:= .returning,kind:=kind'},callers:=cs',status:= .running,dying:=none} u #[]) g1 w1:=fun e=>DI hc hcm hw (by exact hnk) (VO hf .returning) (.inr rfl) e
  have cons2: ∀{x:Item} {k:List Item},jK P F Gl x=true->(∀y∈k,jK P F Gl y=true)-> ∀y∈x::k,jK P F Gl y=true:=fun hx hk y hy=>by
    rcases List.mem_cons.1 hy with rfl |hy
    · exact hx
    · exact hk y hy
  unfold stepG.exec at h ⊢;simp only at h ⊢
  cases todo' with
  |nil=>exact ret h
  |cons it k=>
    have hk:=tail it k rfl;have hh:=head it k rfl
    cases it with
    |code c=>
      cases c with
      |ret=>exact ret h
      |skip=>exact to k hk h
      |label l=>exact to k hk h
      |seq a b=>
        simp only[jK,jX,Bool.and_eq_true] at hh;exact to _ (cons2 (x:= .code a) hh.1 (cons2 (x:= .code b) hh.2 hk)) h
      |cond c a b=>
        simp only[jK,jX,Bool.and_eq_true] at hh;have hE:=DF hf.tmps hG c hh.1.1;simp only at h ⊢;generalize Frame.eval {fn:=fn',tmps:=tmps,todo:=Item.code (Code.cond c a b)::k,defers:= [],mode:=mode',kind:=kind'} c=v at h hE;generalize Frame.eval {fn:=fn',tmps:=tmps',todo:=Item.code (Code.cond c a b)::k,defers:= [],mode:=mode',kind:=kind'} c=v' at hE ⊢
        cases hE with
        |bool t=>
          simp only at h ⊢;refine to _ (cons2 (x:= .code (if t then a else b)) ?_ hk) h
          cases t
          · exact hh.2
          · exact hh.1.2
        |_=>cases h
      |block id c=>exact to _ (cons2 (x:= .code c) hh (cons2 (x:= .inBlock id) rfl hk)) h
      |loop c=>exact to _ (cons2 (x:= .code c) hh (cons2 (x:= .inLoop c) hh hk)) h
      |scope c=>exact to _ (cons2 (x:= .code c) hh (cons2 (x:= .inScope c) hh hk)) h
      |exit id=>
        simp only at h ⊢
        cases he:exitTo id k with
        |none=>rw[he] at h;cases h
        |some k'=>
          rw[he] at h;exact to k' (fun it hit=>hk it (JU he it hit)) h
      |region id ops draw=>
        simp only at h ⊢
        cases draw with
        |false=>
          simp only[Bool.not_false,if_true] at h ⊢;exact to _ (cons2 (x:= .inRegion ops (List.range ops.size)) hh hk) h
        |true=>
          simp only[Bool.not_true,Bool.false_eq_true,if_false] at h ⊢;have e1:(choose (.order fn' id)).run P w= .ok (w.tape w.drawn (.order fn' id)) {w with drawn:=w.drawn+1}:=rfl;have e2:(choose (.order fn' id)).run P u= .ok (u.tape u.drawn (.order fn' id)) {u with drawn:=u.drawn+1}:=rfl;rw[e1] at h;rw[e2];have hw':WR P F R {w with drawn:=w.drawn+1} {u with drawn:=u.drawn+1}:=⟨hw.dom,hw.fn,hw.inj,hw.objs,hw.glob,hw.tape,by simp only[hw.drawn],hw.bigW,hw.bigU⟩;have eq:w.tape w.drawn (.order fn' id)=u.tape u.drawn (.order fn' id):=by rw[hw.tape,hw.drawn]
          simp only at h ⊢;rw[eq,GStep.go.injEq] at h;obtain⟨rfl,rfl,_⟩:=h;exact⟨R,_,_,_,.refl R,rfl,⟨JV hf (cons2 (x:= .inRegion ops _) hh hk),hc,rfl,rfl,rfl,rfl,.inl hm,hcm,hnk⟩,hw',⟨nR _,fun _ _ _=>rfl,fun b'=>⟨.inl,fun h=>h.elim (fun y=>y) fun x=>absurd x.2 (Nat.not_lt.2 x.1)⟩,fun _ _ h=> .inl h,⟨rfl,rfl,rfl⟩,fun _ _ h=>h⟩,fun e he=>by simp at he⟩
      |_=>cases hh
    |inRegion ops l=>
      cases l with
      |nil=>exact to k hk h
      |cons i rest=>
        simp only at h ⊢;rw[<-VL (ops:=ops) hf.tmps]
        split
        · rename_i hwant
          rw[if_pos hwant] at h;exact oper h hnd
        · rename_i hwant
          rw[if_neg hwant] at h;have hff:=Ar hf (v:=undef) (v':=undef) qo;exact DI hc hcm hw (by rw[sD.finish_kind];exact hnk) hff (.inl (by rw[sD.finish_mode];exact hm)) h
    |inBlock b=>exact to k hk h
    |inLoop c=>exact to _ (cons2 (x:= .code c) hh (cons2 (x:= .inLoop c) hh hk)) h
    |inScope c=>exact to k hk h
    |_=>cases hh
theorem VT (hF:FC P F Gl) (hf:FrR P F Gl R fr fr') (hm:fr.mode= .returning) (hc:FrL P F Gl tl R cs cs') (hcm: ∀x∈cs,x.mode= .run) (hnk:cs= []\/fr.kind= .normal) (hw:WR P F R w u)
  (h:unwind P true fr cs none w= .go g1 w1 es):oz P F Gl tl R u (unwind P mn fr' cs' none u) g1 w1:=by
 obtain⟨fn,b,hfn,_,_,_,hin⟩:=hF.body _ hf.known;have hm':fr'.mode= .returning:=hf.mode.trans hm;have hfn':P.funcs[fr'.fn]? =some fn:=by rw[hf.fn];exact hfn
 unfold unwind at h ⊢;rw[hf.defers,hm] at h;rw[hf.defers',hm'];simp only[hfn] at h;simp only[hfn']
 cases hr:(results fn fr.tmps).runT P w #[] with
 |mk r es0=>
  rw[hr] at h
  cases r with
  |halt x w2=>
   obtain⟨_,e⟩:=ou h
   cases x<;>cases e
  |ok v w2=>
   obtain⟨R2,v',u1,us1,l2,e2,hw2,hv,hfr,hev⟩:=Vz fn hf.tmps R (.refl R) w u hw #[] v w2 es0 hr #[];rw[e2];simp only at h ⊢;have hev': ∀x∈seen P fr'.fn us1,EvR R2 x:=fun x hx=>((hev x (mem_seen hx)).resolve_left (by simp))
   cases hc with
   |nil=>
    obtain⟨_,e⟩:=ou h;simp only[doReturn] at e
    split at e
    ·cases ‹(none:Option Dying)=some _›
    ·cases e
    ·rw[hin] at e;simp only[Bool.not_true,Bool.false_eq_true,if_false] at e
     cases e
   | @cons c c' l l' hcc hck hll=>
    obtain⟨_,e⟩:=ou h;have hkn:fr.kind= .normal:=hnk.resolve_left (by simp);have hkn':fr'.kind= .normal:=hf.kind'.trans hkn;simp only[doReturn,hkn] at e;rw[GStep.go.injEq] at e;obtain⟨rfl,rfl,_⟩:=e;refine⟨R2,{frame:=c'.finish v',callers:=l',status:= .running,dying:=none},u1,seen P fr'.fn us1,l2, ?_,⟨Ar (hcc.mono l2) hv,hll.mono l2,rfl,rfl,rfl,rfl,.inl ?_,fun x hx=>hcm x (List.mem_cons_of_mem _ hx),by rw[sD.finish_kind];exact hck⟩,hw2,hfr,hev'⟩
    ·simp only[doReturn,hkn',GStep.after,Array.append_empty]
    ·rw[sD.finish_mode];exact hcm c (List.mem_cons_self ..)
end
theorem VU (G:Good P) (hF:FC P F Gl) (hG: ∀x,Gl x=true->R.rel x x) {mn:Bool} {g g' g1:gO} {w u w1:wD} {es:Array Event} (hg:GoK P F Gl tl R g g') (hgo:lI g) (hw:WR P F R w u) (hst:Started w)
  (h:stepG P true g w= .go g1 w1 es) (hnd: ¬jw P g1):oz P F Gl tl R u (stepG P mn g' u) g1 w1:=by
 obtain⟨fr,cs,st,dy,off⟩:=g;obtain⟨fr',cs',st',dy',off'⟩:=g';obtain⟨hf,hc,_,_,hd,hd',hm,hcm,hnk⟩:=hg;simp only at hf hc hd hd' hm hcm hnk;subst hd hd';unfold stepG at h ⊢
 rcases hm with hm |hm
 ·have hm':=hf.mode.trans hm;simp only[hm] at h;simp only[hm'];exact VQ G hF hG hf hgo.frame hm hc hcm hnk hw hst h hnd
 ·have hm':=hf.mode.trans hm;simp only[hm] at h;simp only[hm'];exact VT hF hf hm hc hcm hnk hw h
end
end
end Go.Tp
namespace Go.Tp
open Go.Conc
structure Hold where
 mine:Nat->Prop
 sh:Nat->Prop
structure Off (H:Hold) (u u':wD):Prop where
 size:u.heap.size<=u'.heap.size
 keep: ∀b,b<u.heap.size->H.mine b\/H.sh b->u'.heap[b]? =u.heap[b]?
 same:u'.tape=u.tape/\u'.os=u.os/\u'.output=u.output
theorem Off.refl (H:Hold) (u:wD):Off H u u:=⟨nR _,fun _ _ _=>rfl,rfl,rfl,rfl⟩
theorem Off.trans {H:Hold} {u u' u'':wD} (h:Off H u u') (h':Off H u' u''):Off H u u'':=
 ⟨Nat.le_trans h.size h'.size,fun b hb hm=>(h'.keep b (Nat.lt_of_lt_of_le hb h.size) hm).trans (h.keep b hb hm),h'.same.1.trans h.same.1,h'.same.2.1.trans h.same.2.1,h'.same.2.2.trans h.same.2.2⟩
theorem Off.at (H:Hold) (u:wD) (d:Nat):Off H u {u with drawn:=d}:=⟨nR _,fun _ _ _=>rfl,rfl,rfl,rfl⟩
structure Does (H H':Hold) (u u':wD):Prop where
 size:u.heap.size<=u'.heap.size
 keep: ∀b,b<u.heap.size-> ¬H.mine b->u'.heap[b]? =u.heap[b]?
 mine: ∀b,H'.mine b↔H.mine b\/(u.heap.size<=b/\b<u'.heap.size)
 sh:H'.sh=H.sh
 same:u'.tape=u.tape/\u'.os=u.os/\u'.output=u.output
inductive EvO (H:Hold):Event->Prop
 |read {a:Addr}:H.mine a.block\/H.sh a.block->EvO H ⟨.cell a,false,false⟩
 |write {a:Addr}:H.mine a.block->EvO H ⟨.cell a,true,false⟩
 |obj {r:Nat}:H.mine r\/H.sh r->EvO H ⟨.obj r,false,false⟩
 |noRoom (x y:Bool):EvO H ⟨.mark .noRoom,x,y⟩
def Au (P:pQ) (mn:Bool) (H:Hold) (g:gO) (u:wD) (x:Hold×gO×wD):Prop:=
 ∃es,stepG P mn g u= .go x.2.1 x.2.2 es/\Does H x.1 u x.2.2/\ ∀e∈es,EvO x.1 e
inductive MV (P:pQ) (mn:Bool) (Stop:Hold->gO->wD->Prop):Hold×gO×wD->Prop
 |stop {H g u}:g.status= .running->(∀u',Off H u u'->Stop H g u')->MV P mn Stop (H,g,u)
 |step {H g u} (next:wD->Hold×gO×wD):g.status= .running->(∀u',Off H u u'->MV P mn Stop (next u'))->(∀u',Off H u u'->Au P mn H g u' (next u'))->MV P mn Stop (H,g,u)
theorem MV.step' {P:pQ} {mn:Bool} {Stop:Hold->gO->wD->Prop} {H:Hold} {g:gO} {u:wD} (hst:g.status= .running)
  (h: ∀u',Off H u u'-> ∃x,MV P mn Stop x/\Au P mn H g u' x):MV P mn Stop (H,g,u):=by
 classical
 have h': ∀u',∃x,Off H u u'->MV P mn Stop x/\Au P mn H g u' x:=fun u'=>by
  by_cases ho:Off H u u'
  ·obtain⟨x,hx⟩:=h u' ho;exact⟨x,fun _=>hx⟩
  ·exact⟨(H,g,u),fun h=>absurd h ho⟩
 exact .step (fun u'=>Classical.choose (h' u')) hst (fun u' ho=>(Classical.choose_spec (h' u') ho).1) (fun u' ho=>(Classical.choose_spec (h' u') ho).2)
theorem MV.running {P:pQ} {mn:Bool} {Stop:Hold->gO->wD->Prop} {x:Hold×gO×wD} (h:MV P mn Stop x):x.2.1.status= .running:=by
 cases h with
 |stop h _=>exact h
 |step _ h _ _=>exact h
theorem MV.mono {P:pQ} {mn:Bool} {Stop Stop':Hold->gO->wD->Prop} {x:Hold×gO×wD} (h:MV P mn Stop x) (hS: ∀H g u,Stop H g u->Stop' H g u):MV P mn Stop' x:=by
 induction h with
 |stop h1 h2=>exact .stop h1 fun u' ho=>hS _ _ _ (h2 u' ho)
 |step next h1 _ h3 ih=>exact .step next h1 ih h3
theorem MV.bind {P:pQ} {mn:Bool} {Stop Stop':Hold->gO->wD->Prop} {x:Hold×gO×wD} (h:MV P mn Stop x) (hS: ∀H g u,(∀u',Off H u u'->Stop H g u')->MV P mn Stop' (H,g,u)):MV P mn Stop' x:=by
 induction h with
 |stop _ h2=>exact hS _ _ _ h2
 |step next h1 _ h3 ih=>exact .step next h1 ih h3
theorem MV.rely {P:pQ} {mn:Bool} {Stop:Hold->gO->wD->Prop} {H:Hold} {g:gO} {u u':wD} (h:MV P mn Stop (H,g,u)) (ho:Off H u u'):MV P mn Stop (H,g,u'):=by
 cases h with
 |stop h1 h2=>exact .stop h1 fun u'' ho'=>h2 u'' (ho.trans ho')
 |step next h1 h2 h3=>exact .step next h1 (fun u'' ho'=>h2 u'' (ho.trans ho')) (fun u'' ho'=>h3 u'' (ho.trans ho'))
section
variable {P:pQ} {F:FuncId->Bool} {Gl:Nat->Bool} {tl:List fR}
theorem WR.off {R:Rl} {S:Nat->Prop} {w u u':wD} (hw:WR P F R (w.tp u.tape u.drawn noJ) u) (hS: ∀b b',R.rel b b'->R.own b'\/S b') (ho:Off ⟨R.own,S⟩ u u'):WR P F R (w.tp u'.tape u'.drawn noJ) u':=by
 have e: ∀n:Nat,(w.tp u'.tape u'.drawn noJ).heap[n]? =(w.tp u.tape u.drawn noJ).heap[n]? :=fun n=>rfl;refine⟨fun b b' h=>⟨by have:=(hw.dom b b' h).1;simpa[gJ] using this,Nat.lt_of_lt_of_le (hw.dom b b' h).2 ho.size⟩,hw.fn,hw.inj,fun b b' o h hb=> ?_,hw.glob,rfl,rfl,by have:=hw.bigW;simpa[gJ] using this,Nat.le_trans hw.bigU ho.size⟩;rw[e] at hb;obtain⟨o',h1,h2⟩:=hw.objs b b' o h hb;exact⟨o',by rw[ho.keep b' (hw.dom b b' h).2 (hS b b' h)];exact h1,h2⟩
theorem VW {R:Rl} {S:Nat->Prop} (hS: ∀b b',R.rel b b'->R.own b'\/S b') {e:Event} (h:EvR R e):EvO ⟨R.own,S⟩ e:=by
 cases h with
 | @cell b a wr hr hw=>
  cases wr with
  |false=>exact .read (hS _ _ hr)
  |true=>exact .write (hw rfl)
 |obj hr=>exact .obj (hS _ _ hr)
 |noRoom x y=>exact .noRoom x y
def StopR (P:pQ) (F:FuncId->Bool) (Gl:Nat->Bool) (tl:List fR) (R0:Rl) (S:Nat->Prop) (Stop:gO->wD->Prop) (H:Hold) (g':gO) (u':wD):Prop:=
 ∃R g w,R0.le R/\(∀r r',R.ch r r'->R0.ch r r')/\Stop g w/\GoK P F Gl tl R g g'/\WR P F R (w.tp u'.tape u'.drawn noJ) u'/\H=⟨R.own,S⟩/\ ∀b b',R.rel b b'->R.own b'\/S b'
theorem VX (G:Good P) (hF:FC P F Gl) {mn:Bool} {Stop:gO->wD->Prop} (hS: ∀g w,Stop g w-> ¬jw P g) {S:Nat->Prop} {R0:Rl} {g:gO} {w:wD} (h:Run P Stop g w):
  ∀(R:Rl) (g':gO) (u:wD),R0.le R->(∀r r',R.ch r r'->R0.ch r r')->GoK P F Gl tl R g g'->lI g->Started w->(∀x,Gl x=true->R.rel x x)->(∀b b',R.rel b b'->R.own b'\/S b')->WR P F R (w.tp u.tape u.drawn noJ) u->
   MV P mn (StopR P F Gl tl R0 S Stop) (⟨R.own,S⟩,g',u):=by
 induction h with
 | @stop g w hs=>
  intro R g' u hle hch hg _ _ _ hS' hw;exact .stop hg.run' fun u' ho=>⟨R,g,w,hle,hch,hs,hg,hw.off hS' ho,rfl,hS'⟩
 | @step g w next hrun hr hE ih=>
  intro R g' u hle hch hg hgo hst hGl hS' hw;refine MV.step' hg.run' fun u' ho=> ?_;have hw':=hw.off hS' ho;obtain⟨es,_,hs⟩:=(hE u'.tape u'.drawn).step noJ lF;have hnd: ¬jw P (next u'.tape u'.drawn).2.1:=VH G.noEnter hS (hr _ _);have hst':Started (w.tp u'.tape u'.drawn noJ):=nD hst _ _;obtain⟨R2,g1',u1,es',l2,e1,hg1,hw1,hfr,hev⟩:=VU G hF hGl (mn:=mn) hg hgo hw' hst' hs hnd;have hform:=(VI G hgo hg.alive hst' hs).resolve_right hnd;have hS2: ∀b b',R2.rel b b'->R2.own b'\/S b':=fun b b' hb=>by
   rcases hfr.new b b' hb with h0 |h0
   ·rcases hS' b b' h0 with x |x
    ·exact .inl (l2.own _ x)
    ·exact .inr x
   ·exact .inl ((hfr.own b').2 (.inr ⟨h0,(hw1.dom b b' hb).2⟩))
  have etp:((next u'.tape u'.drawn).2.2.tp u'.tape (u'.drawn+(next u'.tape u'.drawn).1) noJ)=((next u'.tape u'.drawn).2.2.tp u1.tape u1.drawn noJ):=by
   have e1:=hw1.tape;have e2:=hw1.drawn;simp only[Cm,CB] at e1 e2;rw[<-e1,<-e2]
  rw[etp] at hw1;have hst2:Started (next u'.tape u'.drawn).2.2:=by
   have:=nD hform.2.2 (next u'.tape u'.drawn).2.2.tape (next u'.tape u'.drawn).2.2.drawn;rw[dS,dh] at this;exact this
  refine⟨(⟨R2.own,S⟩,g1',u1),ih _ _ R2 g1' u1 (hle.trans l2) (fun r r' h=>hch _ _ (hfr.ch _ _ h)) hg1 hform.1 hst2 (fun x hx=>l2.rel _ _ (hGl x hx)) hS2 hw1,es',e1,⟨hfr.size,fun b hb hm=>hfr.keep b hb hm,hfr.own,rfl,hfr.same⟩,fun e he=>VW hS2 (hev e he)⟩
end
end Go.Tp
namespace Go.Tp
open Go.Conc Go.ConcN
def InL (p:Nat->Prop):Loc->Prop
 | .cell a=>p a.block
 | .obj r=>p r
 |_=>False
theorem InL.mono {p q:Nat->Prop} (h: ∀b,p b->q b): ∀{l:Loc},InL p l->InL q l
 | .cell _,x=>h _ x
 | .obj _,x=>h _ x
 | .output,x=>x.elim
 | .goroutines,x=>x.elim
 | .mark _,x=>x.elim
theorem InL.no {p q:Nat->Prop} (h: ∀b,p b->q b->False): ∀{l:Loc},InL p l->InL q l->False
 | .cell _,x,y=>h _ x y
 | .obj _,x,y=>h _ x y
 | .output,x,_=>x
 | .goroutines,x,_=>x
 | .mark _,x,_=>x
theorem InL.low {B:Nat}: ∀{l:Loc},l.low B-> ∀{p:Nat->Prop},InL p l->InL (fun b=>p b/\b<B) l
 | .cell _,h,_,x=>⟨x,h⟩
 | .obj _,h,_,x=>⟨x,h⟩
 | .output,_,_,x=>x.elim
 | .goroutines,_,_,x=>x.elim
 | .mark _,_,_,x=>x.elim
def Ac (act:Nat->Prop) (x:Nat):Prop:=x=0\/act x
structure Apt (act:Nat->Prop) (H:Nat->Hold):Prop where
 mm: ∀x y b,Ac act x->Ac act y->x≠y->(H x).mine b-> ¬(H y).mine b
 ms: ∀x y b,Ac act x->Ac act y->(H x).mine b-> ¬(H y).sh b
structure Tr (B:Nat) (t:Trace) (act:Nat->Prop) (H:Nat->Hold):Prop where
 clean: ∀said,¬Race said t
 hears: ∀x,Ac act x->Deaf t x=0
 seen: ∀op∈t,op.act.low B
 all: ∀i a,touchAt t i=some a->a.loc.isMemory=true-> ∃x,Ac act x/\Knows t x i/\(x≠0->InL (H x).mine a.loc\/(InL (H x).sh a.loc/\a.write=false))
 own: ∀c,act c->c≠0-> ∀i a,touchAt t i=some a->InL (H c).mine a.loc->Knows t c i
 wr: ∀c,act c->c≠0-> ∀i a,touchAt t i=some a->InL (H c).sh a.loc->a.write=true->Knows t c i
def OpO (B:Nat) (H:Hold) (op:MemOp):Prop:=op.act.low B/\ ∀b,op.act.touch?=some b->b.loc.isMemory=true->InL H.mine b.loc\/(InL H.sh b.loc/\b.write=false)
section
variable {B:Nat} {t u:Trace} {act:Nat->Prop} {H:Nat->Hold}
theorem JW (h: ∀op∈t,op.act.low B) {i:Nat} {a:Touch} (ha:touchAt t i=some a):a.loc.low B:=by
 obtain⟨op,hop,hoa⟩:=touch_of ha;have hl:=h op (mem_of_getElem? hop)
 cases e:op.act with
 |access ev=>
  rw[e] at hl hoa;simp only[MemAct.touch?,oI] at hoa;subst hoa;exact hl
 |mark m=>
  rw[e] at hl hoa
  cases m<;>simp only[MemAct.touch?] at hoa<;>first | (cases hoa;done) | (simp only[oI] at hoa;subst hoa;exact hl)
 |_=>rw[e] at hoa;cases hoa
theorem Tr.grow (h:Tr B t act H) {B':Nat} (hB:B<=B') {H':Nat->Hold} (hm: ∀x b,(H x).mine b->(H' x).mine b) (hm': ∀x b,b<B->(H' x).mine b->(H x).mine b) (hs: ∀x b,(H x).sh b->(H' x).sh b) (hs': ∀x b,b<B->(H' x).sh b->(H x).sh b):Tr B' t act H':=by
 refine⟨h.clean,h.hears,fun op hop=>MemAct.low_mono hB (h.seen op hop),fun i a ha hm0=> ?_,fun c hc h0 i a ha hl=> ?_,fun c hc h0 i a ha hl hw=> ?_⟩
 ·obtain⟨x,hx,hk,hh⟩:=h.all i a ha hm0;exact⟨x,hx,hk,fun hx0=>(hh hx0).imp (InL.mono (hm x)) fun y=>⟨y.1.mono (hs x),y.2⟩⟩
 ·exact h.own c hc h0 i a ha ((InL.low (JW h.seen ha) hl).mono fun b hb=>hm' c b hb.2 hb.1)
 ·exact h.wr c hc h0 i a ha ((InL.low (JW h.seen ha) hl).mono fun b hb=>hs' c b hb.2 hb.1) hw
theorem Tr.app (h:Tr B t act H) (hA:Apt act H) {x:Nat} (hx:Ac act x) (hu: ∀op∈u,op.g=x) (ho: ∀op∈u,OpO B (H x) op) (hd:Deaf (t++u) x=0):Tr B (t++u) act H:=by
 have hold: ∀{i:Nat} {a:Touch},touchAt (t++u) i=some a->(touchAt t i=some a)\/ ∃op∈u,op.act.touch?=some a/\Knows (t++u) x i:=by
  intro i a ha;obtain⟨z,hz,hza⟩:=touch_of ha
  rcases getElem?_append_cases hz with ⟨_,hz'⟩ |⟨_,hzu⟩
  ·exact .inl (by rw[touchAt_of hz'];exact hza)
  ·have:=knows_own hz;rw[hu z hzu] at this;exact .inr ⟨z,hzu,hza,this⟩
 have mem_of: ∀{l:Loc} {p:Nat->Prop},InL p l->l.isMemory=true:=fun {l} {p} hl=>by cases l<;>first |rfl |exact hl.elim
 refine⟨fun said=> ?_,fun y hy=> ?_,seen_app h.seen fun op hop=>(ho op hop).1,fun i a ha hm=> ?_,fun c hc h0 i a ha hl=> ?_,fun c hc h0 i a ha hl hw=> ?_⟩
 ·refine noRace_append (h.clean said) hu fun i a ha op hop b hb hc=> ?_;obtain⟨hl,hmem,hw,_⟩:=hc;have hbm:b.loc.isMemory=true:=hl▸hmem
  rcases Nat.eq_zero_or_pos x with rfl |hpos
  ·obtain⟨y,hy,hk,hh⟩:=h.all i a ha hmem
   rcases Nat.eq_zero_or_pos y with rfl |hy0
   ·exact hk
   ·exfalso
    rcases hh (by omega) with h1 |⟨h1,h1w⟩
    ·rcases(ho op hop).2 b hb hbm with h2 |⟨h2,_⟩
     ·exact InL.no (fun bb p q=>hA.mm y 0 bb hy hx (by omega) p q) h1 (hl▸h2)
     ·exact InL.no (fun bb p q=>hA.ms y 0 bb hy hx p q) h1 (hl▸h2)
    ·have hbw:b.write=true:=hw.resolve_left (by simp[h1w])
     rcases(ho op hop).2 b hb hbm with h2 |⟨_,h2⟩
     ·exact InL.no (fun bb p q=>hA.ms 0 y bb hx hy p q) (hl▸h2) h1
     ·rw[h2] at hbw;cases hbw
  ·have hxa:act x:=hx.resolve_left (by omega)
   rcases(ho op hop).2 b hb hbm with h2 |⟨h2,h2w⟩
   ·exact h.own x hxa (by omega) i a ha (hl▸h2)
   ·exact h.wr x hxa (by omega) i a ha (hl▸h2) (hw.resolve_right (by simp[h2w]))
 ·by_cases e:x=y
  ·subst e;exact hd
  ·rw[Deaf_other t (g:=y) (g':=x) (by first |exact e |exact fun q=>e q.symm) u hu];exact h.hears y hy
 ·rcases hold ha with ha' |⟨op,hop,hoa,hk⟩
  ·obtain⟨y,hy,hk,hh⟩:=h.all i a ha' hm;exact⟨y,hy,hk.app u,hh⟩
  ·exact⟨x,hx,hk,fun _=>(ho op hop).2 a hoa hm⟩
 ·rcases hold ha with ha' |⟨op,hop,hoa,hk⟩
  ·exact(h.own c hc h0 i a ha' hl).app u
  ·by_cases e:x=c
   ·subst e;exact hk
   ·exfalso
    rcases(ho op hop).2 a hoa (mem_of hl) with h2 |⟨h2,_⟩
    ·exact InL.no (fun bb p q=>hA.mm x c bb hx (.inr hc) e p q) h2 hl
    ·exact InL.no (fun bb p q=>hA.ms c x bb (.inr hc) hx p q) hl h2
 ·rcases hold ha with ha' |⟨op,hop,hoa,hk⟩
  ·exact(h.wr c hc h0 i a ha' hl hw).app u
  ·by_cases e:x=c
   ·subst e;exact hk
   ·exfalso
    rcases(ho op hop).2 a hoa (mem_of hl) with h2 |⟨_,h2⟩
    ·exact InL.no (fun bb p q=>hA.ms x c bb hx (.inr hc) p q) h2 hl
    ·rw[hw] at h2;cases h2
theorem Tr.mute (h:Tr B t act H) (hn: ∀op∈u,op.act.touch?=none) (hl: ∀op∈u,op.act.low B) (hd: ∀x,Ac act x->Deaf (t++u) x=0):Tr B (t++u) act H:=by
 have hold: ∀{i:Nat} {a:Touch},touchAt (t++u) i=some a->touchAt t i=some a:=by
  intro i a ha;obtain⟨z,hz,hza⟩:=touch_of ha
  rcases getElem?_append_cases hz with ⟨_,hz'⟩ |⟨_,hzu⟩
  ·rw[touchAt_of hz'];exact hza
  ·rw[hn z hzu] at hza;cases hza
 refine⟨fun said=> ?_,hd,seen_app h.seen hl,fun i a ha hm=> ?_,fun c hc h0 i a ha hl'=>(h.own c hc h0 i a (hold ha) hl').app u,fun c hc h0 i a ha hl' hw=>(h.wr c hc h0 i a (hold ha) hl' hw).app u⟩
 ·rintro⟨i,j,hij,⟨a,b,ha,hb,hc⟩,n1,n2⟩;obtain⟨x,hx,hxa⟩:=touch_of (hold ha);obtain⟨y,hy,hyb⟩:=touch_of (hold hb);exact h.clean said ⟨i,j,hij,⟨a,b,by simp[Trace.act?,hx,hxa],by simp[Trace.act?,hy,hyb],hc⟩,fun e=>n1 (hb_app u e),fun e=>n2 (hb_app u e)⟩
 ·obtain⟨x,hx,hk,hh⟩:=h.all i a (hold ha) hm;exact⟨x,hx,hk.app u,hh⟩
theorem Tr.fork (h:Tr B t act H) {c:Nat} (hc0:c≠0) (hdc:Deaf t c=0) {x y:MemOp} (hx:x.g=0/\x.act= .go c) (hy:y.g=c/\y.act= .start) {act':Nat->Prop} {H':Nat->Hold}
  (hact: ∀z,act' z↔act z\/z=c) (hH: ∀z,act z->z≠0->H' z=H z) (hcm: ∀b,¬(H' c).mine b) (hcs: ∀b,(H' c).sh b-> ∀z,act z->z≠0-> ¬(H z).mine b) (hnew: ¬act c):Tr B (t++ #[x,y]) act' H':=by
 have hd: ∀z,Deaf (t++ #[x,y]) z=Deaf t z:=by
  intro z;have e:t++ #[x,y]=(t++ #[x])++ #[y]:=by apply Array.ext';simp
  rw[e];have hone: ∀(s:Trace) (o:MemOp),(∀m,o.act= .mark m->m≠ .disable/\m≠ .enable)->Deaf (s++ #[o]) z=Deaf s z:=by
   intro s o ho;unfold Deaf;have hs:(s++ #[o])[s.size]? =some o:=by simp
   have:(s++ #[o]).size=s.size+1:=by simp
   rw[this,deaf_succ hs,deaf_old (nR _)];unfold deafStep
   split
   ·rename_i e1;exact absurd rfl (ho _ e1).1
   ·rename_i e1;exact absurd rfl (ho _ e1).2
   ·rfl
  rw[hone _ y (by rw[hy.2];intro m hm;cases hm),hone _ x (by rw[hx.2];intro m hm;cases hm)]
 have hm:Tr B (t++ #[x,y]) act H:=h.mute (fun op hop=>by
  simp only[List.mem_toArray,List.mem_cons,List.not_mem_nil,or_false] at hop
  rcases hop with rfl |rfl
  ·rw[hx.2];rfl
  ·rw[hy.2];rfl) (fun op hop=>by
  simp only[List.mem_toArray,List.mem_cons,List.not_mem_nil,or_false] at hop
  rcases hop with rfl |rfl
  ·rw[hx.2];exact trivial
  ·rw[hy.2];exact trivial) fun z hz=>by rw[hd];exact h.hears z hz
 have old: ∀{i:Nat} {a:Touch},touchAt (t++ #[x,y]) i=some a->touchAt t i=some a:=by
  intro i a ha;obtain⟨z,hz,hza⟩:=touch_of ha
  rcases getElem?_append_cases hz with ⟨_,hz'⟩ |⟨_,hzu⟩
  ·rw[touchAt_of hz'];exact hza
  ·simp only[List.mem_toArray,List.mem_cons,List.not_mem_nil,or_false] at hzu
   rcases hzu with rfl |rfl
   ·rw[hx.2] at hza;cases hza
   ·rw[hy.2] at hza;cases hza
 refine⟨hm.clean,fun z hz=> ?_,hm.seen,fun i a ha hmem=> ?_,fun z hz h0 i a ha hl=> ?_,fun z hz h0 i a ha hl hw=> ?_⟩
 ·rw[hd]
  rcases hz with rfl |hz
  ·exact h.hears 0 (.inl rfl)
  ·rcases(hact z).1 hz with hz |rfl
   ·exact h.hears z (.inr hz)
   ·exact hdc
 ·obtain⟨z,hz,hk,hh⟩:=hm.all i a ha hmem;refine⟨z,hz.imp id fun q=>(hact z).2 (.inl q),hk,fun h0=> ?_⟩;rw[hH z (hz.resolve_left h0) h0];exact hh h0
 ·rcases(hact z).1 hz with hz' |rfl
  ·rw[hH z hz' h0] at hl;exact hm.own z hz' h0 i a ha hl
  ·exact(InL.no (q:=fun _=>True) (fun b p _=>hcm b p) hl (hl.mono fun _ _=>trivial)).elim
 ·rcases(hact z).1 hz with hz' |rfl
  ·rw[hH z hz' h0] at hl;exact hm.wr z hz' h0 i a ha hl hw
  ·refine fork_knows hx hy (h.hears 0 (.inl rfl)) hdc ?_;have mem_of: ∀{l:Loc} {p:Nat->Prop},InL p l->l.isMemory=true:=fun {l} {p} hl=>by cases l<;>first |rfl |exact hl.elim
   obtain⟨q,hq,hk,hh⟩:=h.all i a (old ha) (mem_of hl)
   rcases Nat.eq_zero_or_pos q with rfl |hpos
   ·exact hk
   ·exfalso
    rcases hh (by omega) with h1 |⟨_,h1⟩
    ·exact InL.no (fun b p r=>hcs b p q (hq.resolve_left (by omega)) (by omega) r) hl h1
    ·rw[hw] at h1;cases h1
theorem Aw (t u:Trace) (g:Nat) (hu: ∀op∈u,op.act≠ .mark .disable/\op.act≠ .mark .enable): ∀i,i<=u.size->(t++u).deaf g (t.size+i)=Deaf t g
 | 0,_=>by rw[Nat.add_zero,deaf_old (nR _)];rfl
 |i+1,h=>by
  have hi:i<u.size:=by omega
  have hs:(t++u)[t.size+i]? =some u[i]:=by
   rw[Array.getElem?_append_right (by omega)];simp[aG hi]
  rw[show t.size+(i+1)=t.size+i+1 by omega,deaf_succ hs,Aw t u g hu i (by omega)];have:=hu u[i] (Array.getElem_mem hi);unfold deafStep
  split
  ·rename_i e;exact absurd e this.1
  ·rename_i e;exact absurd e this.2
  ·rfl
theorem qw (t u:Trace) (g:Nat) (hu: ∀op∈u,op.act≠ .mark .disable/\op.act≠ .mark .enable):Deaf (t++u) g=Deaf t g:=by
 have:=Aw t u g hu u.size (nR _);unfold Deaf;rw[Array.size_append];exact this
theorem Tr.hand (h:Tr B t act H) {c ch k:Nat} (hc:act c) {o1 o2 o3 o4:MemOp} (h1:o1.g=c/\o1.act= .send ch k) (h2:o2.g=0/\o2.act= .recv ch k 0) (h3:o3.g=c/\o3.act= .sendDone ch k) (h4:o4.g=0/\o4.act= .recvDone ch k)
  (hch:ch<B) {act':Nat->Prop} (hact: ∀z,act' z↔act z/\z≠c):Tr B (t++ #[o1,o2,o3,o4]) act' H:=by
 have hmem: ∀op∈ #[o1,o2,o3,o4],op=o1\/op=o2\/op=o3\/op=o4:=fun op hop=>by simpa using hop
 have hnt: ∀op∈ #[o1,o2,o3,o4],op.act.touch?=none:=fun op hop=>by
  rcases hmem op hop with rfl |rfl |rfl |rfl
  ·rw[h1.2];rfl
  ·rw[h2.2];rfl
  ·rw[h3.2];rfl
  ·rw[h4.2];rfl
 have hpl: ∀op∈ #[o1,o2,o3,o4],op.act≠ .mark .disable/\op.act≠ .mark .enable:=fun op hop=>by
  rcases hmem op hop with rfl |rfl |rfl |rfl
  ·rw[h1.2];exact⟨by simp,by simp⟩
  ·rw[h2.2];exact⟨by simp,by simp⟩
  ·rw[h3.2];exact⟨by simp,by simp⟩
  ·rw[h4.2];exact⟨by simp,by simp⟩
 have hlow: ∀op∈ #[o1,o2,o3,o4],op.act.low B:=fun op hop=>by
  rcases hmem op hop with rfl |rfl |rfl |rfl
  ·rw[h1.2];exact hch
  ·rw[h2.2];exact hch
  ·rw[h3.2];exact hch
  ·rw[h4.2];exact hch
 have hm:Tr B (t++ #[o1,o2,o3,o4]) act H:=h.mute hnt hlow fun z hz=>by rw[qw t _ z hpl];exact h.hears z hz
 have g1:(t++ #[o1,o2,o3,o4])[t.size]? =some o1:=by rw[Array.getElem?_append_right (nR _)];simp
 have g4:(t++ #[o1,o2,o3,o4])[t.size+3]? =some o4:=by rw[Array.getElem?_append_right (by omega)];simp
 have e0:(t++ #[o1,o2,o3,o4]).heard t.size:=⟨c,by simp[Trace.g?,h1.1],by have:=Aw t _ c hpl 0 (by simp);rw[Nat.add_zero] at this;rw[this];exact h.hears c (.inr hc)⟩;have e3:(t++ #[o1,o2,o3,o4]).heard (t.size+3):=⟨0,by simp[Trace.g?,h4.1],by rw[Aw t _ 0 hpl 3 (by simp)];exact h.hears 0 (.inl rfl)⟩;have known: ∀i,Knows t c i->Knows (t++ #[o1,o2,o3,o4]) 0 i:=fun i hk=>by
  have q1:HappensBefore (t++ #[o1,o2,o3,o4]) i t.size:=hk.hb_new (nR _) g1 h1.1;exact⟨t.size+3,o4,g4,h4.1,.inr (q1.trans (.single (.inr ⟨.handOver (c:=ch) (k:=k) (by rw[act?_of g1,h1.2]) (by rw[act?_of g4,h4.2]),e0,e3⟩)))⟩
 have old: ∀{i:Nat} {a:Touch},touchAt (t++ #[o1,o2,o3,o4]) i=some a->touchAt t i=some a:=by
  intro i a ha;obtain⟨z,hz,hza⟩:=touch_of ha
  rcases getElem?_append_cases hz with ⟨_,hz'⟩ |⟨_,hzu⟩
  ·rw[touchAt_of hz'];exact hza
  ·rw[hnt z hzu] at hza;cases hza
 refine⟨hm.clean,fun z hz=>hm.hears z (hz.imp id fun q=>((hact z).1 q).1),hm.seen,fun i a ha hmem=> ?_,fun z hz=>hm.own z ((hact z).1 hz).1,fun z hz=>hm.wr z ((hact z).1 hz).1⟩;obtain⟨z,hz,hk,hh⟩:=h.all i a (old ha) hmem;by_cases e:z=c
 ·subst e;exact⟨0,.inl rfl,known i hk,fun q=>absurd rfl q⟩
 ·exact⟨z,hz.imp id fun q=>(hact z).2 ⟨q,e⟩,hk.app _,hh⟩
theorem Tr.past (h:Tr B t act H) (hn: ∀c,act c->c=0):Past (fun _=>False) B t:=by
 have hk: ∀i a,touchAt t i=some a->a.loc.isMemory=true->Knows t 0 i:=fun i a ha hm=>by
  obtain⟨z,hz,hk,_⟩:=h.all i a ha hm
  rcases hz with rfl |hz
  ·exact hk
  ·rw[hn z hz] at hk;exact hk
 refine⟨h.clean,fun i a ha hm=> .inl (hk i a ha hm),fun i g hg hne hc=> ?_,h.hears 0 (.inl rfl),h.seen⟩;obtain⟨a,ha,hm,_⟩:=hc;obtain⟨q,z,h1,h2,h3⟩:=hk i a ha hm;refine⟨q,by simp[Trace.g?,h1,h2], ?_⟩
 rcases h3 with rfl |h3
 ·exfalso;simp only[Trace.g?,h1,Option.map_some,oI] at hg;omega
 ·exact h3
theorem Tr.of_past (h:Past (fun _=>False) B t) (H:Nat->Hold):Tr B t (fun _=>False) H:=
  ⟨h.clean,fun x hx=>by rcases hx with rfl |hx
                        · exact h.hears
                        · exact hx.elim,h.seen,fun i a ha hm=>⟨0,.inl rfl,(h.known i a ha hm).resolve_right fun q=>q.1,fun q=>absurd rfl q⟩,fun c hc=>hc.elim,fun c hc=>hc.elim⟩
end
section
variable {P:pQ}
theorem choose_lt (q:Question) (n:Nat) (hn:0<n) (hf:q.forced=true\/ ∀t,q.cut t<n) (w:wD): ∃k d,k<n/\(choose q).run P w= .ok k (w.at d):=by
 by_cases h:q.forced=true
 ·exact⟨0,w.drawn,hn,by simp[choose,Sem.run,h,World.at]⟩
 ·exact⟨q.cut (w.tape w.drawn q),w.drawn+1,hf.resolve_left h _,by simp[choose,Sem.run,h,World.at]⟩
theorem VY (n:Nat) (hn:0<n) (w:wD): ∃k d,k<n/\(choose (.select n)).run P w= .ok k (w.at d):=by
 refine choose_lt _ n hn ?_ w;exact .inr fun t=>Nat.mod_lt _ hn
theorem VZ (s:String) (n:Nat) (hn:0<n) (w:wD): ∃k d,k<n/\(choose (.extern s n)).run P w= .ok k (w.at d):=by
 refine choose_lt _ n hn (.inr fun t=> ?_) w;simp only[Question.cut];rw[if_neg (by omega)];exact Nat.mod_lt _ hn
theorem DJ {w:wD} {gs:Array gO} {c s r:Nat} {z:Value} {tm:Bool} (hc:w.heap[c]? =some (.chan 0 #[] false s r tm)):ways w gs (rcase c z)=(partners gs c true).map fun p=> .partner p.1 p.2:=by
 simp only[ways,rcase,hc,Array.size_empty,Nat.lt_irrefl,if_false]
 cases partners gs c true with
 |nil=>rfl
 |cons p l=>rfl
theorem Wh {gs:Array gO} {w w₁:wD} {sl:Option (Nat×Nat)} {i:Nat} {g g₂:gO} {es:Array Event} {cases:Array CommCase} {shape:CommShape}
    (hi:gs[i]? =some g) (h:stepG P (i==0) g w= .comm g₂ cases true shape w₁ es) (hcs: ∀cc∈cases,∃c z s r,cc=rcase c z/\w₁.heap[c]? =some (.chan 0 #[] false s r false))
    (hsome: ∃cc∈cases,∃c z,cc=rcase c z/\partners (gs.setIfInBounds i ph) c true≠ []):
    ∃(k c:Nat) (z:Value) (j kk s r d:Nat),cases[k]? =some (rcase c z)/\(j,kk)∈partners (gs.setIfInBounds i ph) c true/\w₁.heap[c]? =some (.chan 0 #[] false s r false)/\
      runT P (crowd gs w sl) i=(.next (crowd ((finishPartner P (gs.setIfInBounds i ph) j kk undef).setIfInBounds i (g₂.finishComm P cases shape k (offeredValue (gs.setIfInBounds i ph) j kk) true)) ((w₁.at d).setChan c 0 #[] false (s+1) (r+1) false) sl),
        MemOp.ofEvents i g.frame.fn g.frame.place es++ #[{g:=j,fn:=((gs.setIfInBounds i ph).getD j default).frame.fn,pos:=((gs.setIfInBounds i ph).getD j default).frame.place,act:= .send c s},{g:=i,fn:=g₂.frame.fn,pos:=g₂.frame.place,act:= .recv c r 0},
          {g:=j,fn:=((gs.setIfInBounds i ph).getD j default).frame.fn,pos:=((gs.setIfInBounds i ph).getD j default).frame.place,act:= .sendDone c s},{g:=i,fn:=g₂.frame.fn,pos:=g₂.frame.place,act:= .recvDone c r}]):=by
  generalize hgs:gs.setIfInBounds i ph=gp at *;have hready:((cases.zipIdx.toList.map fun(c,k)=>(k,c,ways w₁ gp c)).filter fun(_,_,ws)=> !ws.isEmpty)≠ []:=by
    obtain⟨cc,hcc,c,z,rfl,hp⟩:=hsome;obtain⟨k,hk,e⟩:=Array.mem_iff_getElem.1 hcc;intro he;rw[List.filter_eq_nil_iff] at he;obtain⟨c',z',s,r,e1,e2⟩:=hcs _ hcc;have:=he (k,rcase c z,ways w₁ gp (rcase c z)) (by
      rw[List.mem_map];exact⟨(rcase c z,k),Array.mem_toList_iff.2 (Array.mem_zipIdx_iff_getElem?.2 (by simp[aG hk,e])),rfl⟩)
    have hce:c'=c:=by
      have:=congrArg CommCase.chan e1;simp[rcase] at this;exact this.symm
    subst hce;rw[DJ e2] at this
    cases hpp:partners gp c' true with
    |nil=>exact hp hpp
    |cons p l=>rw[hpp] at this;simp at this
  generalize hR:((cases.zipIdx.toList.map fun(c,k)=>(k,c,ways w₁ gp c)).filter fun(_,_,ws)=> !ws.isEmpty)=ready at *;have hmem: ∀x∈ready,∃k c z s r,cases[k]? =some (rcase c z)/\w₁.heap[c]? =some (.chan 0 #[] false s r false)/\x=(k,rcase c z,(partners gp c true).map fun p=> .partner p.1 p.2)/\partners gp c true≠ []:=by
    intro x hx;rw[<-hR,List.mem_filter,List.mem_map] at hx;obtain⟨⟨⟨cc,k⟩,hm,rfl⟩,hne⟩:=hx;have hk:cases[k]? =some cc:=by
      have:=Array.mem_zipIdx_iff_getElem?.1 (Array.mem_toList_iff.1 hm);simpa using this
    obtain⟨c,z,s,r,rfl,hc⟩:=hcs cc (Array.mem_of_getElem? hk);refine⟨k,c,z,s,r,hk,hc,by rw[<-DJ hc],fun e=> ?_⟩;dsimp only at hne;rw[DJ hc,e] at hne;simp at hne
  have hlen:0<ready.length:=List.length_pos_iff.2 hready;obtain⟨a,d1,ha,e1⟩:=VY (P:=P) ready.length hlen w₁;obtain⟨k,c,z,s,r,hk,hc,hx,hp⟩:=hmem ready[a] (List.getElem_mem ha);have hget:ready.getD a (0,default,[])=(k,rcase c z,(partners gp c true).map fun p=> .partner p.1 p.2):=by
    rw[<-hx,lD,lG ha];rfl
  have hlen2:0<((partners gp c true).map fun p=>Way.partner p.1 p.2).length:=by
    rw[List.length_map];exact List.length_pos_iff.2 hp
  obtain⟨b,d2,hb,e2⟩:=VZ (P:=P) "which waiting goroutine is the partner" _ hlen2 (w₁.at d1);rw[List.length_map] at hb;have hget2:((partners gp c true).map fun p=>Way.partner p.1 p.2).getD b .closed= .partner (partners gp c true)[b].1 (partners gp c true)[b].2:=by
    rw[lD,List.getElem?_map,lG hb];rfl
  refine⟨k,c,z,(partners gp c true)[b].1,(partners gp c true)[b].2,s,r,d2,hk,List.getElem_mem hb,hc, ?_⟩;rw[runT_crowd_comm hi h,hgs];have hill:cases.any (illMade w₁)=false:=any_ill fun cc hcc=>by
    obtain⟨c,z,s,r,rfl,hc⟩:=hcs cc hcc;exact made_recv z hc
  have hpick:(do
      let a <-choose (.select ready.length)
      let (k,c,ws):=ready.getD a (0,default,[])
      let b <-choose (.extern "which waiting goroutine is the partner" ws.length)
      pure (k,c,ws.getD b .closed):Sem (Nat×CommCase×Way)).run P w₁= .ok (k,rcase c z,.partner (partners gp c true)[b].1 (partners gp c true)[b].2) (w₁.at d2):=by
    rw[run_bind,e1];simp only[hget];rw[run_bind,e2];simp only[hget2];rfl
  have hne:ready.isEmpty=false:=by cases ready with
    |nil=>exact absurd rfl hready
    |cons _ _=>rfl
  unfold communicate;rw[if_neg (by rw[Bool.not_eq_true];exact hill)];simp only[hR];rw[if_neg (by rw[hne];simp)];simp only[hpick];have hc2:(w₁.at d2).heap[c]? =some (.chan 0 #[] false s r false):=hc;simp only[rcase,hc2];rfl
where
  run_bind {α β:Type} (s:Sem α) (f:α->Sem β) (w:wD):(s >>= f).run P w=match s.run P w with | .ok a w1=>(f a).run P w1 | .halt h w1=> .halt h w1:=by
    show (s.bind f).run P w=_
    induction s generalizing w with
    |pure a=>rfl
    |load m a k ih=>
      simp only[Sem.bind,Sem.run]
      split
      · exact ih _ _
      · split
        · exact ih _ _
        · rfl
    |store m a v k ih=>
      cases v<;>first
      |rfl
      | (simp only[Sem.bind,Sem.run]
         split
         · split
           · rfl
           · exact ih _
         · split
           · exact ih _
           · rfl)
    |new o k ih=>exact ih _ _
    |shape r k ih=>exact ih _ _
    |freeze a n k ih=>exact ih _
    |frozen a k ih=>exact ih _ _
    |getObj r k ih=>
      simp only[Sem.bind,Sem.run]
      split<;>first |rfl |exact ih _ _
    |setObj r o k ih=>
      simp only[Sem.bind,Sem.run]
      split<;>first |rfl |exact ih _
    |choose q k ih=>
      simp only[Sem.bind,Sem.run]
      split<;>exact ih _ _
    |sys c k ih=>exact ih _ _
    |program k ih=>exact ih _ _
    |mark m k ih=>exact ih _
    |halt x=>rfl
end
structure Trees {X:Type} (T:Nat->X->Prop) (Node:Nat->(X->Prop)->X->Prop):Prop where
 mono: ∀i (Ψ Ψ':X->Prop) x,(∀y,Ψ y->Ψ' y)->Node i Ψ x->Node i Ψ' x
 ind: ∀i (Ψ:X->Prop),(∀x,T i x->Node i (fun y=>T i y/\Ψ y) x->Ψ x)-> ∀x,T i x->Ψ x
theorem Trees.shift {X:Type} {T:Nat->X->Prop} {Node:Nat->(X->Prop)->X->Prop} (h:Trees T Node):Trees (fun i=>T (i+1)) (fun i=>Node (i+1)):=⟨fun i=>h.mono (i+1),fun i=>h.ind (i+1)⟩
theorem DK {X:Type}: ∀(n:Nat) {T:Nat->X->Prop} {Node:Nat->(X->Prop)->X->Prop} (_:Trees T Node) (Φ:List (Option X)->Prop)
  (_: ∀l,(∀i x,l[i]? =some (some x)->T i x/\Node i (fun y=>T i y/\Φ (l.set i (some y))) x)->Φ l) (l:List (Option X)),l.length=n->(∀i x,l[i]? =some (some x)->T i x)->Φ l
 | 0,_,_,_,Φ,H,l,hl,_=>by
  obtain rfl:l= []:=List.length_eq_zero_iff.1 hl;exact H [] (fun i x h=>by simp at h)
 |n+1,T,Node,tr,Φ,H,l,hl,hT=>by
  cases l with
  |nil=>cases hl
  |cons o xs=>
   have hlen:xs.length=n:=by simpa using hl
   cases o with
   |none=>
    refine DK n tr.shift (fun ys=>Φ (none::ys)) (fun ys h=>H (none::ys) fun i x hx=> ?_) xs hlen fun i x hx=>hT (i+1) x (by simpa using hx)
    cases i with
    |zero=>simp at hx
    |succ i=>exact h i x (by simpa using hx)
   |some x=>
    refine tr.ind 0 (fun x=> ∀ys:List (Option X),ys.length=n->(∀i y,ys[i]? =some (some y)->T (i+1) y)->Φ (some x::ys)) (fun x hx hN ys hly hys=> ?_) x (hT 0 x rfl) xs hlen fun i y hy=>hT (i+1) y (by simpa using hy);refine DK n tr.shift (fun zs=>zs.length=n->(∀i y,zs[i]? =some (some y)->T (i+1) y)->Φ (some x::zs)) (fun zs h hz hzs=>H (some x::zs) fun i x' hx'=> ?_) ys hly hys hly hys
    cases i with
    |zero=>
     simp only[List.getElem?_cons_zero,oI] at hx';subst hx';exact⟨hx,tr.mono 0 _ _ x (fun y hy=>⟨hy.1,hy.2 zs hz hzs⟩) hN⟩
    |succ i=>
     obtain⟨h1,h2⟩:=h i x' (by simpa using hx');refine⟨h1,tr.mono (i+1) _ _ x' (fun y hy=>⟨hy.1, ?_⟩) h2⟩;refine hy.2 (by simpa using hz) fun j y' hj=> ?_;rw[List.getElem?_set] at hj
     split at hj
     ·rename_i e
      split at hj
      ·simp only[oI] at hj;subst e hj;exact hy.1
      ·cases hj
     ·exact hzs j y' hj
def Wi (P:pQ) (mn:Bool) (Stop:Hold->gO->wD->Prop) (Ψ:Hold×gO×wD->Prop) (x:Hold×gO×wD):Prop:=
 x.2.1.status= .running/\((∀u',Off x.1 x.2.2 u'->Stop x.1 x.2.1 u')\/ ∀u',Off x.1 x.2.2 u'-> ∃y,Au P mn x.1 x.2.1 u' y/\Ψ y)
theorem Wj (P:pQ) (mn:Nat->Bool) (Stop:Nat->Hold->gO->wD->Prop):Trees (fun i=>MV P (mn i) (Stop i)) (fun i=>Wi P (mn i) (Stop i)):=by
 refine⟨fun i Ψ Ψ' x h hn=>⟨hn.1,hn.2.imp id fun h2 u' ho=>let ⟨y,h3,h4⟩:=h2 u' ho;⟨y,h3,h y h4⟩⟩,fun i Ψ H x hx=> ?_⟩
 induction hx with
 |stop h1 h2=>exact H _ (.stop h1 h2) ⟨h1,.inl h2⟩
 |step next h1 h2 h3 ih=>exact H _ (.step next h1 h2 h3) ⟨h1,.inr fun u' ho=>⟨next u',h3 u' ho,h2 u' ho,ih u' ho⟩⟩
theorem Az: ∀(n:Nat) (l:List Nat),l.Nodup->(∀x∈l,x<n)->l.length<=n/\(l.length=n-> ∀x,x<n->x∈l)
 | 0,l,_,h=>by
  cases l with
  |nil=>exact⟨nR _,fun _ x hx=>by omega⟩
  |cons a l=>have:=h a (List.mem_cons_self ..);omega
 |n+1,l,hd,h=>by
  by_cases hm:n∈l
  ·have hd':(l.erase n).Nodup:=hd.erase n;have h': ∀x∈l.erase n,x<n:=fun x hx=>by
    have h1:=h x (List.mem_of_mem_erase hx);have h2:x≠n:=fun e=>by subst e;exact(List.Nodup.not_mem_erase hd) hx
    omega
   obtain⟨a1,a2⟩:=Az n (l.erase n) hd' h';have hlen:(l.erase n).length=l.length-1:=List.length_erase_of_mem hm;have hpos:0<l.length:=List.length_pos_of_mem hm;refine⟨by omega,fun e x hx=> ?_⟩;by_cases ex:x=n
   ·subst ex;exact hm
   ·exact List.mem_of_mem_erase (a2 (by omega) x (by omega))
  ·have h': ∀x∈l,x<n:=fun x hx=>by
    have h1:=h x hx;have h2:x≠n:=fun e=>by subst e;exact hm hx
    omega
   obtain⟨a1,_⟩:=Az n l hd h';exact⟨by omega,fun e=>by omega⟩
end Go.Tp
