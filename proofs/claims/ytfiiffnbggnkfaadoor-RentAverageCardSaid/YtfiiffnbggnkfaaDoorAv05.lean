/- A part of the proof of a law; no conditions of its own. -/
import Derived.Test.YtfiiffnbggnkfaaDoorAv04
import Derived.Conc.Listed
import Derived.DyingOn
import Derived.Calls
import Derived.Lone
open Go renaming Frame→fR, Goroutine→gO, Program→pQ, Question→qS, World→wD
set_option maxRecDepth 100000
open Nat renaming le_refl→nR
open Array renaming getElem?_eq_some_iff→aS
open Array renaming getElem?_eq_getElem→aG
set_option maxHeartbeats 4000000
namespace Go.Tp
section
open Go.Conc (mem_seen)
def _root_.Go.GStep.tp (st:GStep) (τ:Nat->qS->Nat) (d:Nat) (j:aW):GStep:=match st with
 | .go g w es=> .go g (w.tp τ d j) es
 | .comm g cases blocking shape w es=> .comm g cases blocking shape (w.tp τ d j) es
 | .spawn g child w es=> .spawn g child (w.tp τ d j) es
 | .count g w es=> .count g (w.tp τ d j) es
 | .timer g op w es=> .timer g op (w.tp τ d j) es
 | .alone g on w es=> .alone g on (w.tp τ d j) es
 | .newcoro g c x w es=> .newcoro g c x (w.tp τ d j) es
 | .coroswitch g c exit w es=> .coroswitch g c exit (w.tp τ d j) es
 | .collect g w es=> .collect g (w.tp τ d j) es
 | .watch g w es=> .watch g (w.tp τ d j) es
 | .ended o w es=> .ended o (w.tp τ d j) es
def _root_.Go.GStep.isEnd (st:GStep):Bool:=match st with
 | .ended .. =>true
 |_=>false
def _root_.Go.GStep.room (st:GStep):Nat:=match st with
 | .go _ w _ | .comm _ _ _ _ w _ | .spawn _ _ w _ | .count _ w _ | .timer _ _ w _ | .alone _ _ w _ | .newcoro _ _ _ w _ | .coroswitch _ _ _ w _ | .collect _ w _ | .watch _ w _ | .ended _ w _=>w.heap.size
def jW (df:Bool):Item->Prop
 | .code c | .inLoop c | .inScope c=>codeOk df c=true
 | .inRegion ops _=>ops.all (iP df)=true
 | .inBlock _ | .inRangeFunc _ | .endRangeFunc _ | .beginRound=>True
 | .call .. | .extern .. =>False
structure aP (fr:fR):Prop where
 items: ∀it∈fr.todo,jW fr.roundOf.isNone it
 defers: ∀d∈fr.defers,d.good
 kind:fr.kind≠ .early
structure lI (g:gO):Prop where
 frame:aP g.frame
 callers: ∀f∈g.callers,aP f
def Ja (P:pQ):GStep->Prop
 | .go g w _=>(lI g/\g.dying=none/\(g.status= .running\/g.status= .finished)/\Started w)\/g.dyingOn P
 | .comm g _ b _ w _=>lI g/\g.dying=none/\b=true/\Started w
 | .spawn .. =>True
 | .ended .. =>True
 |_=>False
def Dk (P:pQ):Prop:= ∀(f:FuncId) (fn:Func) (c:Code),P.funcs[f]? =some fn->fn.body=some c->codeOk true c=true
structure Good (P:pQ):Prop where
 funcs:rU P
 bodies:Dk P
 ahead:P.follows .staticDataAhead=true
 noStep: ∀g,P.stepOf g=none
 noEnter: ∀todo,NoEnter P todo
def TL (P:pQ) (F:wD->GStep) (w:wD):Prop:=
 ∃k st,(∀τ d j,j.ok->Agree w k τ d->(j=noJ\/st.isEnd=false)-> ∃es,(∀e∈es,okE st.room e)/\F (w.tp τ d j)=GStep.after es (GStep.tp st τ (d+k) j))/\(∀e∈st.es,okE st.room e)/\Ja P st/\w.heap.size<=st.room
section
variable {P:pQ} {w:wD}
theorem Dl (st:GStep):GStep.after #[] st=st:=by cases st<;>simp[GStep.after]
theorem Ue (x y:Array Event) (st:GStep):GStep.after x (GStep.after y st)=GStep.after (x++y) st:=by cases st<;>simp[GStep.after]
theorem Uf (es:Array Event) (st:GStep):(GStep.after es st).isEnd=st.isEnd:=by cases st<;>rfl
theorem Ug (st:GStep) (τ:Nat->qS->Nat) (d:Nat) (j:aW):(st.tp τ d j).isEnd=st.isEnd:=by cases st<;>rfl
theorem dS (w:wD) (τ τ':Nat->qS->Nat) (d d':Nat) (j:aW):(w.tp τ d noJ).tp τ' d' j=w.tp τ' d' j:=by unfold World.tp;simp only[vO]
theorem nD {w:wD} (h:Started w) (τ:Nat->qS->Nat) (d:Nat):Started (w.tp τ d noJ):=by
 have e:(w.tp τ d noJ).heap=w.heap:=vO _;intro n o ho;rw[e] at ho;exact h n o ho
theorem TL.const {st:wD->GStep} (h: ∀τ d j,st (w.tp τ d j)=(st w).tp τ d j) (he: ∀e∈(st w).es,okE (st w).room e) (ho:Ja P (st w)) (hr:w.heap.size<=(st w).room):TL P st w:=
 ⟨0,st w,fun τ d j _ _ _=>⟨#[],fun e he=>by simp at he,by rw[Dl];exact h τ d j⟩,he,ho,hr⟩
theorem TL.go {g:gO} (hg:lI g) (hs:Started w) (hd:g.dying=none:=by rfl) (hst:g.status= .running\/g.status= .finished:=by first |exact .inl rfl |exact .inr rfl):TL P (fun w=> .go g w) w:= .const (fun _ _ _=>rfl) (fun e he=>by simp[GStep.es] at he) (.inl ⟨hg,hd,hst,hs⟩) (nR _)
theorem TL.dy {g:gO} (hg:g.dyingOn P):TL P (fun w=> .go g w) w:= .const (fun _ _ _=>rfl) (fun e he=>by simp[GStep.es] at he) (.inr hg) (nR _)
theorem TL.ended {o:Outcome}:TL P (fun w=> .ended o w) w:= .const (fun _ _ _=>rfl) (fun e he=>by simp[GStep.es] at he) trivial (nR _)
theorem TL.ite {F F':wD->GStep} {c:Prop} [Decidable c] (h:c->TL P F w) (h': ¬c->TL P F' w):TL P (fun w=>if c then F w else F' w) w:=by
 by_cases hc:c
 ·simpa[hc] using h hc
 ·simpa[hc] using h' hc
theorem TL.join {α:Type} {s:Sem α} {F:wD->GStep} {Ψ:Result α->GStep} {R:wD->Result α} {w':wD} {k:Nat}
  (hF: ∀w,∃es,(∀e∈es,e∈(s.runT P w #[]).2)/\F w=GStep.after es (Ψ (s.runT P w #[]).1))
  (hr: ∀τ d j es,j.ok->Agree w k τ d->(j=noJ\/(R w').fails=false)-> ∃es',s.runT P (w.tp τ d j) es=(R (w'.tp τ (d+k) j),es')/\More (R w').room es es')
  (hR:(R w').room=w'.heap.size) (hw:w.heap.size<=(R w').room)
  (hend:(R w').fails=true-> ∀w,(Ψ (R w)).isEnd=true)
  (h:TL P (fun w=>Ψ (R w)) (w'.tp w.tape (w.drawn+k) noJ)):TL P F w:=by
 obtain⟨k2,st,g1,g2,g3,g4⟩:=h;have hle:(R w').room<=st.room:=by rw[hR,<-gJ w' w.tape (w.drawn+k) noJ];exact g4
 have hst:(R w').fails=true->st.isEnd=true:=fun hf=>by
  obtain⟨es,_,e⟩:=g1 w.tape (w.drawn+k) noJ lF (fun j hj=>by simp) (.inl rfl);have:=hend hf ((w'.tp w.tape (w.drawn+k) noJ).tp w.tape (w.drawn+k) noJ);dsimp only at e;rw[e,Uf,Ug] at this;exact this
 refine⟨k+k2,st,fun τ d j hj hA hx=> ?_,g2,g3,Nat.le_trans hw hle⟩;have hx':j=noJ\/(R w').fails=false:=hx.imp id (fun h=>by
  cases hf:(R w').fails with
  |false=>rfl
  |true=>rw[hst hf] at h;cases h)
 obtain⟨es',r1,r2⟩:=hr τ d j #[] hj (fun i hi=>hA i (by omega)) hx';obtain⟨es1,f1,f2⟩:=hF (w.tp τ d j);obtain⟨es2,q1,q2⟩:=g1 τ (d+k) j hj (fun i hi=>by
  have:=hA (k+i) (by omega);simp only[Cm,CB];rw[show d+k+i=d+(k+i) by omega,show w.drawn+k+i=w.drawn+(k+i) by omega];exact this) hx
 rw[dS] at q2;rw[r1] at f1 f2;refine⟨es1++es2,fun e he=>(Array.mem_append.1 he).elim (fun h=>(r2 e (f1 e h)).elim (fun h=>by simp at h) (fun h=>h.mono hle)) (q1 e), ?_⟩;rw[f2,<-Ue,show d+(k+k2)=d+k+k2 by omega,<-q2]
theorem TL.by {α:Type} {A:α->Prop} {s:Sem α} {F:wD->GStep} {Ψ:Result α->GStep}
  (hF: ∀w,∃es,(∀e∈es,e∈(s.runT P w #[]).2)/\F w=GStep.after es (Ψ (s.runT P w #[]).1)) (hc:Calm P A s) (hs:Started w)
  (hend: ∀x w,(Ψ (.halt (.stuck x) w)).isEnd=true)
  (h1: ∀a w',A a->Started w'->TL P (fun w=>Ψ (.ok a w)) w')
  (h2: ∀h w',okH h->Started w'->TL P (fun w=>Ψ (.halt h w)) w'):TL P F w:=by
 obtain⟨k,r,hr,ho,hw⟩:=Io s w hc hs
 cases r with
 |ok a w'=>exact TL.join (R:=fun w=> .ok a w) hF hr rfl hw (fun h=>by cases h) (h1 a _ ho.1 (nD ho.2 _ _))
 |halt x w'=>
  refine TL.join (R:=fun w=> .halt x w) hF hr rfl hw (fun h w=> ?_) (h2 x _ ho.1 (nD ho.2 _ _))
  cases x<;>first |exact hend _ _ |cases h
theorem nG (hB:Dk P) (f:FuncId) (args:Array Value) {k:CallKind} (hk:k≠ .early):aP (Frame.enter P f args k):=by
 refine⟨fun it hit=> ?_,fun d hd=>by simp[Frame.enter] at hd,hk⟩;simp only[Frame.enter,List.mem_singleton] at hit;subst hit
 show codeOk true _=true
 cases hf:P.funcs[f]? with
 |none=>rfl
 |some fn=>
  cases hb:fn.body with
  |none=>simp[hb,codeOk]
  |some c=>simpa[hb] using hB f fn c hf hb
theorem nH {fr:fR} (h:aP fr) (v:Value):aP (fr.finish v):=by
 obtain⟨h1,h2,h3⟩:=h;unfold Frame.finish
 split
 ·rename_i ops i rest k ht;rw[ht] at h1;exact⟨fun it hit=>by
   rcases List.mem_cons.1 hit with rfl |hm
   ·exact h1 (.inRegion ops (i::rest)) (List.mem_cons_self ..)
   ·exact h1 _ (List.mem_cons_of_mem _ hm),h2,h3⟩
 ·rename_i l k ht;rw[ht] at h1;exact⟨fun it hit=>by
   rcases List.mem_cons.1 hit with rfl |hm
   ·exact trivial
   ·exact h1 _ (List.mem_cons_of_mem _ hm),h2,h3⟩
 ·rename_i k ht;rw[ht] at h1;exact⟨fun it hit=>h1 _ (List.mem_cons_of_mem _ hit),h2,h3⟩
 ·rename_i ht;rw[ht] at h1;exact(h1 _ (List.mem_cons_self ..)).elim
 ·rename_i ht;rw[ht] at h1;exact(h1 _ (List.mem_cons_self ..)).elim
 ·exact⟨h1,h2,h3⟩
theorem Dn {id:Nat} {df:Bool}: ∀{k k':List Item},exitTo id k=some k'->(∀it∈k,jW df it)-> ∀it∈k',jW df it
 | [],_,h,_=>by simp[exitTo] at h
 |x::k,k',h,hk=>by
  have rest: ∀it∈k,jW df it:=fun it hm=>hk it (List.mem_cons_of_mem _ hm);unfold exitTo at h
  split at h
  ·split at h
   ·rename_i heq _;cases heq;cases h;exact rest
   ·rename_i heq _;cases heq;exact Dn h rest
  ·rename_i heq;cases heq;exact Dn h rest
  ·rename_i heq;cases heq
theorem iQ {fr:fR} (h:aP fr) {todo:List Item} (ht: ∀it∈todo,jW fr.roundOf.isNone it):aP {fr with todo:=todo}:=⟨ht,h.defers,h.kind⟩
theorem vY {fr:fR} (h:aP fr) (m:FrameMode):aP {fr with mode:=m}:=⟨h.items,h.defers,h.kind⟩
theorem vZ {fr:fR} (h:aP fr) (c:List PanicEntry):aP (fr.raise c):=by
 unfold Frame.raise;split<;>exact vY h _
theorem Aa: ∀{callers:List fR} {fr:fR} {v:Value} {rest:List fR},tryRecover fr callers=some (v,rest)->(∀f∈callers,aP f)-> ∀f∈rest,aP f:=by
 intro callers
 induction callers with
 |nil=>intro fr v rest h;unfold tryRecover at h;split at h<;>simp_all
 |cons c cs ih=>
  intro fr v rest h hk;have hc:=hk c (List.mem_cons_self ..);have hcs: ∀f∈cs,aP f:=fun f hf=>hk f (List.mem_cons_of_mem _ hf);unfold tryRecover at h
  split at h
  ·rename_i heq
   cases heq
   split at h
   ·cases h
    intro f hf
    rcases List.mem_cons.1 hf with rfl |hm
    ·exact vY hc _
    ·exact hcs _ hm
   ·cases h
  ·rename_i heq
   cases heq
   obtain⟨⟨v',r'⟩,hr,he⟩:=Option.map_eq_some_iff.1 h
   cases he
   intro f hf
   rcases List.mem_cons.1 hf with rfl |hm
   ·exact hc
   ·exact ih hr hcs _ hm
  ·cases h
theorem Uh: ∀{callers:List fR} {l:Nat} {v:Value} {rest:List fR},tryRecoverLoop l callers=some (v,rest)->(∀f∈callers,aP f)-> ∀f∈rest,aP f:=by
 intro callers
 induction callers with
 |nil=>intro l v rest h;unfold tryRecoverLoop at h;cases h
 |cons c cs ih=>
  intro l v rest h hk;have hc:=hk c (List.mem_cons_self ..);have hcs: ∀f∈cs,aP f:=fun f hf=>hk f (List.mem_cons_of_mem _ hf);unfold tryRecoverLoop at h;obtain⟨⟨v',r'⟩,hr,he⟩:=Option.map_eq_some_iff.1 h
  cases he
  have: ∀f∈r',aP f:=by
   split at hr
   ·exact ih hr hcs
   ·split at hr
    ·exact Aa hr hcs
    ·exact ih hr hcs
   ·exact ih hr hcs
  intro f hf
  rcases List.mem_cons.1 hf with rfl |hm
  ·exact hc
  ·exact this _ hm
theorem Dp (hB:Dk P) {main:Bool} {fr:fR} {callers:List fR} {v:Value} (hf:aP fr) (hc: ∀f∈callers,aP f) (hs:Started w):TL P (fun w=>doReturn P main fr callers none v w) w:=by
 unfold doReturn
 cases callers with
 |nil=>
  dsimp only
  split
  ·rename_i heq;cases heq
  ·exact .ended
  ·split
   ·exact .go ⟨hf,hc⟩ hs
   ·split
    ·exact .go ⟨nG hB _ _ (by decide),fun f h=>by simp at h⟩ hs
    ·exact .ended
 |cons c cs=>
  have h1:=hc c (List.mem_cons_self ..);have h2: ∀f∈cs,aP f:=fun f hf=>hc f (List.mem_cons_of_mem _ hf);dsimp only
  split
  ·exact .go ⟨nH h1 _,h2⟩ hs
  ·exact .go ⟨nH h1 _,h2⟩ hs
  ·rename_i hk;exact absurd hk hf.kind
  ·refine .go ⟨?_,h2⟩ hs;dsimp only
   split
   ·split<;>exact vY h1 _
   ·exact h1
theorem Dq (G:Good P) {fr:fR} {callers:List fR} {s:Sem Next} (hf:aP fr) (hc: ∀f∈callers,aP f) (hs:Started w) (hcalm:Calm P jH s):
    TL P (fun w=>stepG.apply P true fr callers none s w) w:=by
  have hke:(fr.kind==CallKind.early)=false:=by simpa using hf.kind
  refine TL.by (s:=s) (Ψ:= ?_) (fun w=> ?_) hcalm hs ?_ ?_ ?_
  rotate_left
  · unfold stepG.apply
    simp only[if_true,hke,Bool.false_eq_true,if_false];generalize s.runT P w #[]=x;obtain⟨r,es⟩:=x;dsimp only;refine⟨seen P fr.fn (match r with | .halt .blocked _ | .halt .waiting _ | .halt (.unsupported (.initOrder _)) _=> #[] |_=>es),fun e he=> ?_, ?_⟩
    rotate_left
    · exact rfl
    have:=mem_seen he
    split at this<;>simp_all
  · exact fun _ _=>rfl
  · intro a w' ha hs'
    have nx: ∀(fr':fR) (w':wD),aP fr'->Started w'->TL P (fun w=>GStep.go {frame:=fr',callers,status:= .running,dying:=none} w) w':=fun fr' w' h1 h2=> .go ⟨h1,hc⟩ h2
    cases a with
    |value v=>exact nx _ _ (nH hf _) hs'
    |skip=>exact nx _ _ (nH hf _) hs'
    |enter f args=>
      refine .go ⟨nG G.bodies _ _ ?_,fun x hx=> ?_⟩ hs'
      · split<;>decide
      · rcases List.mem_cons.1 hx with rfl |hm
        · exact hf
        · exact hc _ hm
    |round l f tmps a b=>
      refine .go ⟨⟨fun it hit=> ?_,fun d hd=>by simp[Frame.round] at hd,by simp[Frame.round]⟩,fun x hx=> ?_⟩ hs'
      · simp only[Frame.round,List.mem_cons,List.not_mem_nil,or_false] at hit
        rcases hit with rfl |rfl |rfl
        · exact ha.1
        · exact trivial
        · exact ha.2
      · rcases List.mem_cons.1 hx with rfl |hm
        · exact hf
        · exact hc _ hm
    |defer d=>
      have h0:aP {fr with defers:=d::fr.defers}:=⟨hf.items,fun x hx=>(List.mem_cons.1 hx).elim (fun e=>e▸ha) (hf.defers x),hf.kind⟩;exact nx _ _ (nH h0 _) hs'
    |recover=>
      dsimp only
      split
      · rename_i v cs hr
        have: ∀f∈cs,aP f:=by
          split at hr
          · split at hr
            · exact Aa hr hc
            · exact Uh hr hc
          · exact Aa hr hc
        exact .go ⟨nH hf _,this⟩ hs'
      · exact nx _ _ (nH hf _) hs'
    |comm cases blocking shape=>exact .const (fun _ _ _=>rfl) (fun e he=>by simp[GStep.es] at he) ⟨⟨hf,hc⟩,rfl,ha,hs'⟩ (nR _)
    |spawn d=>
      refine TL.ite (fun _=> ?_) (fun _=> ?_)
      · exact .dy (dieOf_okD (P:=P) fr [] "go of nil func value" false w')
      · exact .const (fun _ _ _=>rfl) (fun e he=>by simp[GStep.es] at he) trivial (nR _)
    |_=>exact ha.elim
  · intro h w' hh hs'
    cases h with
    |panic v=>
        exact .go ⟨vZ hf _,hc⟩ hs'
    |unsupported u=>
      cases u with
      |initOrder g=>
        unfold early;simp only[G.ahead,Bool.not_true,Bool.false_eq_true,if_false,G.noStep];exact .ended
      |_=>exact .ended
    |stuck x=>exact .ended
    |_=>exact hh.elim
theorem iH {it:Item} {k:List Item} {fr:fR} (h:aP fr) (ht:fr.todo=it::k): ∀x∈k,jW fr.roundOf.isNone x:=fun x hx=>h.items x (by rw[ht];exact List.mem_cons_of_mem _ hx)
theorem jI {it:Item} {k:List Item} {fr:fR} (h:aP fr) (ht:fr.todo=it::k):jW fr.roundOf.isNone it:=h.items it (by rw[ht];exact List.mem_cons_self ..)
theorem jd {df:Bool} {it:Item} {k:List Item} (h:jW df it) (hk: ∀x∈k,jW df x): ∀x∈it::k,jW df x:=fun x hx=>(List.mem_cons.1 hx).elim (fun e=>e▸h) (hk x)
theorem Ui (l:Nat) (j:Option Code) (hj: ∀c,j=some c->codeOk false c=true):ah P (Instr.endRound l j):=by
 unfold Instr.endRound;refine jF (rW l) fun r hr=> ?_;exact aF (rQ P _ ⟨⟨hr.1,hr.2.1,hj⟩,rfl⟩) fun _=>trivial
theorem Uj (l:Nat):Calm P (fun j:Option Code=> ∀c,j=some c->codeOk false c=true) (Instr.endLoop l):=by
 unfold Instr.endLoop;refine jF (rW l) fun r hr=> ?_;have k:Calm P (fun j:Option Code=> ∀c,j=some c->codeOk false c=true) (setObj l (.loop {r with state:= .exhausted}) >>= fun _=>(pure r.pending:Sem (Option Code))):=
  aF (rQ P _ ⟨⟨hr.1,hr.2.1,hr.2.2⟩,rfl⟩) fun _=>hr.2.2
 dsimp only
 split
 ·exact jF (A:=fun _=>False) (nC _ _) fun _ x=>x.elim
 ·exact k
theorem Uk (l:Nat):ah P (Instr.beginRound l):=by
 unfold Instr.beginRound;refine jF (rW l) fun r hr=> ?_;refine aF (rQ P _ ⟨⟨hr.1,hr.2.1,hr.2.2⟩,rfl⟩) fun _=> ?_
 split<;>first |exact trivial |exact nC _ _
theorem Ul (f:FuncId) (tmps:Array Value) (ps:Array Tmp) (a b:Code) (o:Option Nat) (ha:codeOk false a=true) (hb:codeOk false b=true):
    Calm P (fun r:Nat×List Deferred=> ∀d∈r.2,d.good) (Instr.enterLoop f tmps ps a b o):=by
  unfold Instr.enterLoop;have k: ∀s:Sem (Nat×List Deferred),Calm P (fun r:Nat×List Deferred=> ∀d∈r.2,d.good) s->
      Calm P (fun r:Nat×List Deferred=> ∀d∈r.2,d.good) (s >>= fun x=>newObj (.loop {state:= .ready,pending:=none,fn:=f,tmps:=tmps,params:=ps,assign:=a,body:=b,defers:=x.1}) >>= fun l=>(pure (l,x.2):Sem (Nat×List Deferred))):=
    fun s hs=>jF hs fun r hr=>aF (pV P ⟨⟨ha,hb,fun c h=>by cases h⟩,rfl⟩) fun _=>hr
  dsimp only
  split
  · exact jF (rW _) fun _ _=>k _ (fun d hd=>by cases hd)
  · refine aF (pV P ⟨(fun d hd=>by cases hd),rfl⟩) fun r=>k _ ?_
    intro d hd;simp only[List.mem_singleton] at hd;subst hd;exact trivial
theorem Um {d:Bool} {o:Oper} (h:iP false o=true):iP d o=true:=by
 cases d
 ·exact h
 ·unfold iP at *
  split at h<;>simp_all
theorem Ad {d:Bool}: ∀{c:Code},codeOk false c=true->codeOk d c=true
 | .region _ ops _,h=>by
  simp only[codeOk,Array.all_eq_true_iff_forall_mem] at *;exact fun o ho=>Um (h o ho)
 | .seq a b,h | .cond _ a b,h=>by
  simp only[codeOk,Bool.and_eq_true] at *;exact⟨Ad h.1,Ad h.2⟩
 | .rangeFunc _ _ a b,h=>by simpa only[codeOk] using h
 | .block _ c,h | .loop c,h | .scope c,h=>by
  simp only[codeOk] at *;exact Ad h
 | .goto _,h=>by simp[codeOk] at h
 | .skip,_ | .exit _,_ | .label _,_ | .ret,_ | .refuse _,_=>by simp[codeOk]
theorem Un (G:Good P) {main:Bool} {fr:fR} {callers:List fR} (hf:aP fr) (hc: ∀f∈callers,aP f) (hs:Started w):
    TL P (fun w=>stepG.exec P main true fr callers none w) w:=by
  have go: ∀{fr':fR} {w':wD},aP fr'->Started w'->TL P (fun w=>GStep.go {frame:=fr',callers,status:= .running,dying:=none} w) w':=fun h1 h2=> .go ⟨h1,hc⟩ h2;have leave: ∀jump:Option Code,(∀c,jump=some c->codeOk false c=true)->TL P (fun w=>match fr.roundOf with
      |none=>if jump matches none |some .ret then GStep.go {frame:={fr with mode:= .returning},callers,status:= .running,dying:=none} w else .ended (.stuck "exit, goto: no such block or label" (fr.pos P)) w
      |some l=>GStep.after (seen P fr.fn ((Instr.endRound l jump).runT P w #[]).2)<|match ((Instr.endRound l jump).runT P w #[]).1 with
        | .ok v w=>doReturn P main fr callers none v w
        | .halt _ w=> .ended (.stuck "range over a function: no such loop" (fr.pos P)) w) w:=by
    intro jump hj
    split
    · exact TL.ite (fun _=>go (vY hf _) hs) (fun _=> .ended)
    · rename_i l _
      refine TL.by (P:=P) (s:=Instr.endRound l jump) (Ψ:= ?_) (fun w=>⟨seen P fr.fn ((Instr.endRound l jump).runT P w #[]).2,fun e he=>mem_seen he, ?_⟩) (Ui l jump hj) hs ?_ ?_ ?_
      rotate_left
      · generalize (Instr.endRound l jump).runT P w #[]=x
        obtain⟨r,es⟩:=x;dsimp only;exact rfl
      · exact fun _ _=>rfl
      · intro a w' ha hs'
        exact Dp G.bodies hf hc hs'
      · intro h w' hh hs'
        exact .ended
  unfold stepG.exec;dsimp only
  split
  · exact leave none (fun c h=>by cases h)
  · exact leave (some .ret) (fun c h=>by cases h;rfl)
  · rename_i k ht;exact go (iQ hf (iH hf ht)) hs
  · rename_i l k ht;exact go (iQ hf (iH hf ht)) hs
  · rename_i l k ht;exact go (iQ hf (iH hf ht)) hs
  · rename_i l k ht;exact go (iQ hf (iH hf ht)) hs
  · rename_i a b k ht
    have h:codeOk fr.roundOf.isNone a&&codeOk fr.roundOf.isNone b:=jI hf ht;rw[Bool.and_eq_true] at h;exact go (iQ hf (jd h.1 (jd h.2 (iH hf ht)))) hs
  · rename_i c a b k ht
    have h:codeOk fr.roundOf.isNone a&&codeOk fr.roundOf.isNone b:=jI hf ht;rw[Bool.and_eq_true] at h
    split
    · rename_i t _
      refine go (iQ hf (jd ?_ (iH hf ht))) hs
      cases t
      · exact h.2
      · exact h.1
    · exact .ended
  · rename_i id c k ht
    exact go (iQ hf (jd (show codeOk fr.roundOf.isNone c=true from jI hf ht) (jd trivial (iH hf ht)))) hs
  · rename_i c k ht
    have h:codeOk fr.roundOf.isNone c=true:=jI hf ht;exact go (iQ hf (jd h (jd h (iH hf ht)))) hs
  · rename_i c k ht
    have h:codeOk fr.roundOf.isNone c=true:=jI hf ht;exact go (iQ hf (jd h (jd h (iH hf ht)))) hs
  · rename_i c k ht
    have h:codeOk fr.roundOf.isNone c=true:=jI hf ht;exact go (iQ hf (jd h (jd h (iH hf ht)))) hs
  · rename_i id k ht
    cases hx:exitTo id k with
    |none=>exact leave (some (.exit id)) (fun c h=>by cases h;rfl)
    |some k'=>exact go (iQ hf (Dn hx (iH hf ht))) hs
  · rename_i l k ht
    have h:codeOk fr.roundOf.isNone (.goto l)=true:=jI hf ht;simp[codeOk] at h
  · rename_i f ps a b k ht
    have h:codeOk false a&&codeOk false b:=jI hf ht;rw[Bool.and_eq_true] at h;refine TL.by (P:=P) (s:=Instr.enterLoop fr.fn fr.tmps ps a b fr.roundOf) (Ψ:= ?_) (fun w=>⟨seen P fr.fn ((Instr.enterLoop fr.fn fr.tmps ps a b fr.roundOf).runT P w #[]).2,fun e he=>mem_seen he, ?_⟩) (Ul _ _ _ _ _ _ h.1 h.2) hs ?_ ?_ ?_
    rotate_left
    · generalize (Instr.enterLoop fr.fn fr.tmps ps a b fr.roundOf).runT P w #[]=x
      obtain⟨r,es⟩:=x;dsimp only;exact rfl
    · exact fun _ _=>rfl
    · intro r w' ha hs'
      refine Dq G ⟨jd (df:=fr.roundOf.isNone) trivial (iH hf ht),fun d hd=> ?_,hf.kind⟩ hc hs' ?_
      · exact(List.mem_append.1 hd).elim (ha d) (hf.defers d)
      · refine jF (vX _ _ _) fun d hd=>Dj G.funcs _ ?_ _
        have hd':d.good:=hd;unfold Deferred.good at hd'
        cases e:d.target<;>simp_all
    · intro x w' hh hs'
      exact .ended
  · exact .ended
  · rename_i k ht
    refine Dq G hf hc hs ?_
    cases hr:fr.roundOf with
    |none=>exact trivial
    |some l=>exact aF (Uk l) fun _=>trivial
  · rename_i l k ht
    refine TL.by (P:=P) (s:=Instr.endLoop l) (Ψ:= ?_) (fun w=>⟨seen P fr.fn ((Instr.endLoop l).runT P w #[]).2,fun e he=>mem_seen he, ?_⟩) (Uj l) hs ?_ ?_ ?_
    rotate_left
    · generalize (Instr.endLoop l).runT P w #[]=x
      obtain⟨r,es⟩:=x;dsimp only;exact rfl
    · exact fun _ _=>rfl
    · intro r w' ha hs'
      refine go (iQ hf fun it hit=> ?_) hs'
      rcases List.mem_append.1 hit with h1 |h1
      · cases r with
        |none=>cases h1
        |some c=>
          simp only[Option.map_some,Option.toList_some,List.mem_singleton] at h1;subst h1;exact Ad (ha c rfl)
      · exact iH hf ht _ h1
    · intro x w' hh hs'
      cases x with
      |panic v=>exact go (vZ hf _) hs'
      |_=>exact .ended
  · exact .ended
  · rename_i ht;exact(jI hf ht).elim
  · rename_i ht;exact(jI hf ht).elim
  · rename_i id ops draw k ht
    have h:ops.all (iP fr.roundOf.isNone)=true:=jI hf ht;refine TL.ite (fun _=>go (iQ hf (jd h (iH hf ht))) hs) (fun _=> ?_);refine TL.by (P:=P) (s:=choose (.order fr.fn id)) (Ψ:= ?_) (fun w=>⟨#[],fun e he=>by simp at he, ?_⟩) (CU P _) hs ?_ ?_ ?_
    rotate_left
    · rw[Dl,<-Sem.runT_fst P _ w #[]]
      generalize (choose (.order fr.fn id)).runT P w #[]=x;obtain⟨r,es⟩:=x;dsimp only;exact rfl
    · exact fun _ _=>rfl
    · intro t w' ha hs'
      exact go (iQ hf (jd h (iH hf ht))) hs'
    · intro x w' hh hs'
      exact .ended
  · rename_i ops k ht
    exact go (iQ hf (iH hf ht)) hs
  · rename_i ops i rest k ht
    have h:ops.all (iP fr.roundOf.isNone)=true:=jI hf ht;refine TL.ite (fun _=> ?_) (fun _=>go (nH hf _) hs);unfold stepG.oper
    cases ho:fr.oper? with
    |none=>exact .ended
    |some o=>
      have hop:iP fr.roundOf.isNone o=true:=by
        unfold Frame.oper? at ho;rw[ht] at ho;have:=Array.mem_of_getElem? ho;exact(Array.all_eq_true_iff_forall_mem.1 h) o this
      have fin:TL P (fun w=>stepG.apply P true fr callers none (execOp fr.eval o) w) w:=Dq G hf hc hs (IZ G.funcs _ (fun _=>rfl) _ hop);dsimp only
      split
      · rename_i l c hr hd
        rw[hr] at hop;simp only[Option.isNone_some] at hop;unfold iP at hop;rw[hd] at hop
        split at hop<;>simp_all
      · exact fin
theorem Uo (fn:Func) (tmps:Array Value):ah P (results fn tmps):=by
 unfold results;refine aF (CW _ _ fun r=> ?_) fun _=>trivial
 split
 ·exact trivial
 ·exact aF (IE P _) fun _=>CY P _ _
theorem Ur (b:Nat):Calm P (fun ds:List Deferred=> ∀d∈ds,d.good) (Instr.takeDeferred b):=by
 unfold Instr.takeDeferred;refine vT _ (fun o ho=> ?_) (.inl ⟨_,rfl⟩)
 split
 ·exact aF (rQ P _ ⟨trivial,rfl⟩) fun _=>ho
 ·exact trivial
theorem Jb: ∀(l:List PanicEntry) (b:Bool),ah P (reportChain l b)
 | [],_=>trivial
 |e::older,b=>by
  have ih:=Jb older
  haveI: ∀b,IsCalm P (reportChain older b):=fun b=>⟨ih b⟩
  clear ih;unfold reportChain
  (repeat' first
  |exact dI _ _
  |exact IsCalm.out
  | (refine aF ?_ (fun _=> ?_))
  | (refine CS ?_)
  | (refine jG (fun _=> ?_) (fun _=> ?_))
  |split
  |exact trivial
  |dsimp only)
theorem Us (G:Good P) {fr:fR} {callers:List fR} {d:Deferred} (hf:aP fr) (hc: ∀f∈callers,aP f) (hd:d.good) (hs:Started w):TL P (fun w=>callDeferred P fr callers none d w) w:=by
 have go: ∀{fr':fR} {w':wD},aP fr'->Started w'->TL P (fun w=>GStep.go {frame:=fr',callers,status:= .running,dying:=none} w) w':=fun h1 h2=> .go ⟨h1,hc⟩ h2;have ht:match d.target with | .builtin b .. =>Di b=true | .coroexit _=>False |_=>True:=by
  unfold Deferred.good at hd
  cases e:d.target<;>simp_all
 unfold callDeferred;refine TL.ite (fun _=> .ended) (fun _=> ?_);refine TL.by (P:=P) (s:=invoke d.target d.args) (Ψ:= ?_) (fun w=> ?_) (Dj G.funcs _ ht _) hs ?_ ?_ ?_
 rotate_left
 ·generalize (invoke d.target d.args).runT P w #[]=x;obtain⟨r,es⟩:=x;dsimp only;refine⟨seen P fr.fn (match r with | .halt .blocked _ | .halt .waiting _=> #[] |_=>es),fun e he=> ?_, ?_⟩
  rotate_left
  ·exact rfl
  have:=mem_seen he
  split at this<;>simp_all
 ·exact fun _ _=>rfl
 ·intro a w' ha hs'
  cases a with
  |enter f args=>
   refine .go ⟨nG G.bodies _ _ (by decide),fun x hx=> ?_⟩ hs'
   rcases List.mem_cons.1 hx with rfl |hm
   ·exact hf
   ·exact hc _ hm
  |round l f tmps a b=>
   refine .go ⟨⟨fun it hit=> ?_,fun d hd=>by simp[Frame.round] at hd,by simp[Frame.round]⟩,fun x hx=> ?_⟩ hs'
   ·simp only[Frame.round,List.mem_cons,List.not_mem_nil,or_false] at hit
    rcases hit with rfl |rfl |rfl
    ·exact ha.1
    ·exact trivial
    ·exact ha.2
   ·rcases List.mem_cons.1 hx with rfl |hm
    ·exact hf
    ·exact hc _ hm
  |recover=>
   dsimp only
   split
   ·rename_i v cs _ hr;exact .go ⟨hf,Aa hr hc⟩ hs'
   ·exact go hf hs'
  |value v=>exact go hf hs'
  |skip=>exact go hf hs'
  |defer d=>exact go hf hs'
  |spawn d=>exact go hf hs'
  |comm a b c=>exact go hf hs'
  |_=>exact ha.elim
 ·intro h w' hh hs'
  cases h with
  |panic v=>exact go (vZ hf _) hs'
  |unsupported u=>exact .ended
  |stuck x=>exact .ended
  |_=>exact hh.elim
theorem Ut (G:Good P) {main:Bool} {fr:fR} {callers:List fR} (hf:aP fr) (hc: ∀f∈callers,aP f) (hs:Started w):TL P (fun w=>unwind P main fr callers none w) w:=by
 have go: ∀{fr':fR} {w':wD},aP fr'->Started w'->TL P (fun w=>GStep.go {frame:=fr',callers,status:= .running,dying:=none} w) w':=fun h1 h2=> .go ⟨h1,hc⟩ h2;have hdt: ∀{d:Deferred} {ds:List Deferred},fr.defers=d::ds->d.good/\ ∀x∈ds,x.good:=fun h=>⟨hf.defers _ (by rw[h];exact List.mem_cons_self ..),fun x hx=>hf.defers _ (by rw[h];exact List.mem_cons_of_mem _ hx)⟩;unfold unwind
 split
 ·rename_i block args ds hdef;refine TL.by (P:=P) (s:=Instr.takeDeferred block) (Ψ:= ?_) (fun w=>⟨seen P fr.fn ((Instr.takeDeferred block).runT P w #[]).2,fun e he=>mem_seen he, ?_⟩) (Ur _) hs ?_ ?_ ?_
  rotate_left
  ·generalize (Instr.takeDeferred block).runT P w #[]=x;obtain⟨r,es⟩:=x;dsimp only;exact rfl
  ·exact fun _ _=>rfl
  ·intro calls w' ha hs';refine go ⟨hf.items,fun x hx=> ?_,hf.kind⟩ hs';exact(List.mem_append.1 hx).elim (ha x) ((hdt hdef).2 x)
  ·intro x w' hh hs';exact .ended
 ·rename_i d ds _ hdef;exact Us G ⟨hf.items,(hdt hdef).2,hf.kind⟩ hc (hdt hdef).1 hs
 ·split
  ·exact .ended
  ·rename_i chain _;refine TL.ite (fun _=> .ended) (fun _=> ?_)
   cases callers with
   |cons c cs=>
    exact .go ⟨vZ (hc c (List.mem_cons_self ..)) _,fun f h=>hc f (List.mem_cons_of_mem _ h)⟩ hs
   |nil=>
    dsimp only;refine TL.ite (fun _=> .go ⟨hf,hc⟩ hs) (fun _=> ?_);refine TL.by (P:=P) (s:=reportChain chain false) (Ψ:= ?_) (fun w=>⟨#[],fun e he=>by simp at he, ?_⟩) (Jb _ _) hs ?_ ?_ ?_
    rotate_left
    ·rw[Dl,<-Sem.runT_fst P _ w #[]];generalize (reportChain chain false).runT P w #[]=x;obtain⟨r,es⟩:=x;dsimp only;exact rfl
    ·exact fun _ _=>rfl
    ·intro todo w' ha hs';exact .dy ⟨.inl rfl,_,rfl,rfl,G.noEnter _⟩
    ·intro x w' hh hs'
     cases x with
     |unsupported u=>exact .ended
     |_=>exact .ended
  ·split
   ·exact Dp G.bodies hf hc hs
   ·rename_i fn _;refine TL.by (P:=P) (s:=results fn fr.tmps) (Ψ:= ?_) (fun w=>⟨seen P fr.fn ((results fn fr.tmps).runT P w #[]).2,fun e he=>mem_seen he, ?_⟩) (Uo _ _) hs ?_ ?_ ?_
    rotate_left
    ·generalize (results fn fr.tmps).runT P w #[]=x;obtain⟨r,es⟩:=x;dsimp only;exact rfl
    ·exact fun _ _=>rfl
    ·intro v w' ha hs';exact Dp G.bodies hf hc hs'
    ·intro x w' hh hs'
     cases x with
     |stuck s=>exact .ended
     |_=>exact .ended
theorem Jc (G:Good P) {main:Bool} {g:gO} (hg:lI g) (hd:g.dying=none) (hs:Started w):TL P (fun w=>stepG P main g w) w:=by
 obtain⟨fr,callers,status,dying,offers⟩:=g
 cases hd
 unfold stepG;dsimp only
 split
 ·rename_i heq;cases heq
 ·exact Un G hg.frame hg.callers hs
 ·exact Ut G hg.frame hg.callers hs
end
end
structure Edge (P:pQ) (g:gO) (w:wD) (τ:Nat->qS->Nat) (d k:Nat) (g':gO) (w':wD):Prop where
 room:w.heap.size<=w'.heap.size
 step: ∀j,j.ok-> ∃es,(∀e∈es,okE w'.heap.size e)/\stepG P true g (w.tp τ d j)= .go g' (w'.tp τ (d+k) j) es
inductive Run (P:pQ) (Stop:gO->wD->Prop):gO->wD->Prop
 |stop {g w}:Stop g w->Run P Stop g w
 |step {g w} (next:(Nat->qS->Nat)->Nat->Nat×gO×wD):g.status= .running->(∀τ d,Run P Stop (next τ d).2.1 (next τ d).2.2)->(∀τ d,Edge P g w τ d (next τ d).1 (next τ d).2.1 (next τ d).2.2)->Run P Stop g w
theorem Run.step' {P:pQ} {Stop:gO->wD->Prop} {g:gO} {w:wD} (hst:g.status= .running) (h: ∀τ d,∃k g' w',Run P Stop g' w'/\Edge P g w τ d k g' w'):Run P Stop g w:=by
 have h': ∀τ d,∃x:Nat×gO×wD,Run P Stop x.2.1 x.2.2/\Edge P g w τ d x.1 x.2.1 x.2.2:=fun τ d=>let ⟨k,g',w',a,b⟩:=h τ d;⟨(k,g',w'),a,b⟩;exact .step (fun τ d=>Classical.choose (h' τ d)) hst (fun τ d=>(Classical.choose_spec (h' τ d)).1) (fun τ d=>(Classical.choose_spec (h' τ d)).2)
section
variable {P:pQ}
theorem Jd {g g':gO} {w w':wD} {es:Array Event} (hst:g.status= .running) (hst':g'.status= .running\/g'.status= .blocked) (h:stepG P true g w= .go g' w' es):
  step P (oneG g w)= .next (oneG g' w'):=by
 rw[step,stepT,move_oneG hst]
 rcases hst' with h1 |h1<;>simp[runT,oneG,Array.swapAt!,h,h1]
theorem Uu {g:gO} {w w':wD} {es:Array Event} {o:Outcome} (hst:g.status= .running) (h:stepG P true g w= .ended o w' es):
  step P (oneG g w)= .ended o w':=by
 rw[step,stepT,move_oneG hst];simp[runT,oneG,Array.swapAt!,h]
theorem Uw {g g':gO} {w w':wD} {es:Array Event} (hst:g.status= .running) (hst':g'.status= .finished) (h:stepG P true g w= .go g' w' es):
  step P (oneG g w)= .next (oneG g' w'):=by
 rw[step,stepT,move_oneG hst];simp[runT,oneG,Array.swapAt!,h,hst']
theorem Ux {g:gO} {w:wD} (hst:g.status= .blocked): ∃o w',step P (oneG g w)= .ended o w':=by
 obtain⟨fr,cs,st,dy,off⟩:=g;simp only at hst;subst hst;obtain⟨o',w',he,ho⟩:=endWith_ended w 2 (bytes "fatal error: all goroutines are asleep - deadlock!\n") (.fatal "all goroutines are asleep - deadlock!");refine⟨o',w', ?_⟩;simp[step,stepT,move,ask,askOn,oneG,runnable_eq,due,ahead,Goroutine.canRun,List.range_succ,pure];rw[he]
theorem Uy {w:wD} (hs:Started w) {gs:Array gO} (hg: ∀r b,partners gs r b= []) (c:CommCase):ways w gs c= []:=by
 unfold ways
 split
 ·rename_i r _
  split
  ·rename_i cap buf closed _ _ _ _ ho _;have h:(Obj.chan cap buf closed _ _ _).started:=hs _ _ ho;obtain⟨h1,h2,h3,_⟩:=h;subst h1 h2 h3;simp[hg]
  ·rename_i _ buf closed _ _ _ ho _;have h:(Obj.chan _ buf closed _ _ _).started:=hs _ _ ho;obtain⟨_,h2,h3,_⟩:=h;subst h2 h3;simp[hg]
  ·rfl
 ·rfl
theorem Uz {g:gO} {w:wD} {cases:Array CommCase} {shape:CommShape} (hs:Started w):
  (∃o w',(communicate P {timers:= #[],alone:=none,slice:=none} #[{(default:gO) with status:= .finished}] 0 g cases true shape w).1= .ended o w')\/
  (communicate P {timers:= #[],alone:=none,slice:=none} #[{(default:gO) with status:= .finished}] 0 g cases true shape w).1= .next (oneG {g with status:= .blocked,offers:=some (cases,shape)} w):=by
 have hp: ∀r b,partners #[{(default:gO) with status:= .finished}] r b= []:=fun r b=>by simp[partners]
 unfold communicate;simp only[Uy hs hp]
 split
 ·exact .inl ⟨_,_,rfl⟩
 ·rw[if_pos (by simp)];simp only[if_true,waitingAt,timerAhead];rw[if_neg (by
   simp only[Array.any_eq_true];rintro⟨i,hi,h⟩
   split at h<;>simp at h)]
  exact .inr (by simp[oneG])
theorem UA {n:Nat} {m m':Machine} (h:runN P n m= .next m'):m.gs.size<=m'.gs.size:=
 runNT_size P n m m' #[] _ (Prod.ext (by rw[runNT_fst,h]) rfl)
theorem Je: ∀(n:Nat) {g:gO} {w:wD} {m':Machine},g.dyingOn P->runN P n (oneG g w)= .next m'-> ∃g' w',m'=oneG g' w'/\g'.dyingOn P
 | 0,g,w,m',h,e=>by
  simp only[runN,Stepped.next.injEq] at e;exact⟨g,w,e.symm,h⟩
 |n+1,g,w,m',h,e=>by
  rcases step_dyingOn (w:=w) h with ⟨g',w1,hs,h'⟩ |⟨o,w1,hs,_⟩
  ·simp only[runN,hs] at e;exact Je n h' e
  ·simp only[runN,hs] at e;cases e
theorem UC {g:gO} {w:wD} (hst:g.status= .finished): ∃o w',step P (oneG g w)= .ended o w':=by
 obtain⟨fr,cs,st,dy,off⟩:=g;simp only at hst;subst hst;obtain⟨o',w',he,ho⟩:=endWith_ended w 2 (bytes "fatal error: no goroutines (main called runtime.Goexit) - deadlock!\n") (.fatal "no goroutines (main called runtime.Goexit) - deadlock!");refine⟨o',w', ?_⟩;simp[step,stepT,move,ask,askOn,oneG,runnable_eq,due,ahead,Goroutine.canRun,List.range_succ,pure];rw[he]
def rX (Stop:gO->wD->Prop) (m:Machine):Prop:= ∃g w,m=oneG g w/\g.status= .running/\g.dying=none/\Stop g w
structure Fine (g:gO) (w:wD):Prop where
 good:lI g
 alive:g.dying=none
 runs:g.status= .running
 started:Started w
def gQ (Stop:gO->wD->Prop) (g:gO) (w:wD):Prop:=Stop g w/\Fine g w
theorem UD (G:Good P) {Stop:gO->wD->Prop} {g:gO} {w:wD} (hf:Fine g w) (bad: ¬Run P (gQ Stop) g w):
  ∃(τ:Nat->qS->Nat) (d:Nat),∀(l:Nat) (τ':Nat->qS->Nat),(∀i,τ' (l+i)=τ (d+i))->
   (∃n m',runN P (n+1) (oneG g (w.tp τ' l noJ))= .next m'/\rX Stop m')->
   ∃k g' w',Fine g' w'/\ ¬Run P (gQ Stop) g' w'/\ ∀τ'':Nat->qS->Nat,(∀i,i<k->τ'' (l+i)=τ (d+i))->step P (oneG g (w.tp τ'' l noJ))= .next (oneG g' (w'.tp τ'' (l+k) noJ)):=by
 have hex: ∃(τ:Nat->qS->Nat) (d:Nat),∀k g' w',Run P (gQ Stop) g' w'-> ¬Edge P g w τ d k g' w':=by
  refine Classical.byContradiction fun hc=>bad (.step' hf.runs fun τ d=>Classical.byContradiction fun h2=>hc ⟨τ,d,fun k g' w' hr he=>h2 ⟨k,g',w',hr,he⟩⟩)
 obtain⟨τ,d,hno⟩:=hex;refine⟨τ,d,fun l τ' hτ' ⟨n,m',hrun,hstop⟩=> ?_⟩;obtain⟨k,st,hF,hes,hok,hroom⟩:=Jc G (main:=true) hf.good hf.alive (nD hf.started τ d);have hat: ∀τ'':Nat->qS->Nat,(∀i,i<k->τ'' (l+i)=τ (d+i))-> ∃es,stepG P true g (w.tp τ'' l noJ)=GStep.after es (st.tp τ'' (l+k) noJ):=fun τ'' h=>by
  obtain⟨es,_,e⟩:=hF τ'' l noJ lF h (.inl rfl);rw[dS] at e;exact⟨es,e⟩
 obtain⟨es,e⟩:=hat τ' fun i _=>hτ' i;simp only[runN] at hrun;obtain⟨gx,wx,rfl,hx1,hx2,_⟩:=hstop
 cases st with
 |go g' w' es0=>
  rcases hok with ⟨h1,h2,h3 |h3,h4⟩ |hdy
  ·refine⟨k,g',w',⟨h1,h2,h3,h4⟩,fun hr=>hno k g' w' hr ⟨by rw[<-gJ w τ d noJ];exact hroom,fun j hj=> ?_⟩,fun τ'' h=> ?_⟩
   ·obtain⟨es2,q1,q2⟩:=hF τ d j hj (fun i _=>rfl) (.inr rfl);rw[dS] at q2;exact⟨es2++es0,fun x hx=>(Array.mem_append.1 hx).elim (q1 x) (hes x),q2⟩
   ·obtain⟨es2,e2⟩:=hat τ'' h;exact Jd hf.runs (.inl h3) e2
  ·exfalso;rw[Uw hf.runs h3 e] at hrun
   cases n with
   |zero=>
    simp only[runN,Stepped.next.injEq] at hrun;have:=congrArg (fun m=>(m.gs[0]?).map (·.status)) hrun;simp[oneG,hx1,h3] at this
   |succ n=>
    obtain⟨o,w3,h6⟩:=UC (P:=P) (g:=g') (w:=w'.tp τ' (l+k) noJ) h3;simp only[runN,h6] at hrun
    cases hrun
  ·exfalso;rw[Jd hf.runs hdy.1 e] at hrun;obtain⟨g2,w2,e2,⟨_,dd,hd2,_⟩⟩:=Je n hdy hrun;have:gx=g2:=by have:=congrArg (fun m=>m.gs[0]?) e2;simpa[oneG] using this
   rw[this,hd2] at hx2;cases hx2
 |ended o w' es0=>
  rw[Uu hf.runs e] at hrun;cases hrun
 |comm g1 cases bl shape w1 es0=>
  exfalso;obtain⟨_,_,h3,h4⟩:=hok;subst h3;have hst: ∀s,step P (oneG g (w.tp τ' l noJ))=s->s=(communicate P {timers:= #[],alone:=none,slice:=none} #[{(default:gO) with status:= .finished}] 0 g1 cases true shape (w1.tp τ' (l+k) noJ)).1:=by
   intro s hs;rw[<-hs,step,stepT,move_oneG hf.runs];simp[runT,oneG,Array.swapAt!,e,GStep.after,GStep.tp]
  rcases Uz (P:=P) (g:=g1) (cases:=cases) (shape:=shape) (nD h4 τ' (l+k)) with ⟨o,w2,h5⟩ |h5
  ·rw[hst _ rfl,h5] at hrun;cases hrun
  ·rw[hst _ rfl,h5] at hrun;simp only at hrun
   cases n with
   |zero=>
    simp only[runN,Stepped.next.injEq] at hrun;have:=congrArg (fun m=>(m.gs[0]?).map (·.status)) hrun;simp[oneG,hx1] at this
   |succ n=>
    obtain⟨o,w3,h6⟩:=Ux (P:=P) (g:={g1 with status:= .blocked,offers:=some (cases,shape)}) (w:=w1.tp τ' (l+k) noJ) rfl;simp only[runN,h6] at hrun
    cases hrun
 |spawn g1 ch w1 es0=>
  exfalso;have h5:step P (oneG g (w.tp τ' l noJ))= .next {world:=w1.tp τ' (l+k) noJ,gs:= #[g1,ch],rest:={timers:= #[],alone:=none,slice:=none}}:=by
   rw[step,stepT,move_oneG hf.runs];simp[runT,oneG,Array.swapAt!,e,GStep.after,GStep.tp]
  rw[h5] at hrun;have:=UA hrun;simp[oneG] at this
 |_=>exact hok.elim
structure pW (P:pQ) (Stop:gO->wD->Prop) (g0:gO) (w0:wD) (n:Nat) (x:gO×wD×List (qS->Nat)):Prop where
 fine:Fine x.1 x.2.1
 bad: ¬Run P (gQ Stop) x.1 x.2.1
 reach: ∀τ:Nat->qS->Nat,(∀i (h:i<x.2.2.length),τ i=x.2.2[i])->runN P n (oneG g0 (w0.tp τ 0 noJ))= .next (oneG x.1 (x.2.1.tp τ x.2.2.length noJ))
 early: ∀m,m<=n-> ∀τ:Nat->qS->Nat,(∀i (h:i<x.2.2.length),τ i=x.2.2[i])-> ∀m',runN P m (oneG g0 (w0.tp τ 0 noJ))= .next m'-> ¬rX Stop m'
theorem UE (G:Good P) {Stop:gO->wD->Prop} (hT: ∀g w τ d,Stop g (w.tp τ d noJ)->Stop g w) {g0:gO} {w0:wD}
    (H: ∀τ,∃n m',runN P n (oneG g0 (w0.tp τ 0 noJ))= .next m'/\rX Stop m') {n:Nat} {x:gO×wD×List (qS->Nat)} (hx:pW P Stop g0 w0 n x):
    ∃y,pW P Stop g0 w0 (n+1) y/\x.2.2 <+: y.2.2:=by
  obtain⟨g,w,L⟩:=x;obtain⟨τ,d,hnext⟩:=UD G hx.fine hx.bad;simp only at hnext;have hpre: ∀i (h:i<L.length),(fun i=>if h:i<L.length then L[i] else τ (d+(i-L.length)):Nat->qS->Nat) i=L[i]:=fun i h=>by simp[h]
  obtain⟨N,m',hN,hstop⟩:=H (fun i=>if h:i<L.length then L[i] else τ (d+(i-L.length)));have hlt:n<N:=Nat.lt_of_not_le fun hle=>hx.early N hle _ hpre m' hN hstop;obtain⟨q,rfl⟩: ∃q,N=n+(q+1):=⟨N-n-1,by omega⟩;obtain⟨k,g',w',hf',hb',hs'⟩:=hnext L.length (fun i=>if h:i<L.length then L[i] else τ (d+(i-L.length))) (fun i=>by simp[show ¬(L.length+i<L.length) by omega]) ⟨q,m',by
    have:=hx.reach _ hpre;rw[runN_add,this] at hN;exact hN,hstop⟩
  have hlen:(L++(List.range k).map fun i=>τ (d+i)).length=L.length+k:=by simp
  have hL: ∀τ'':Nat->qS->Nat,(∀i (h:i<(L++(List.range k).map fun i=>τ (d+i)).length),τ'' i=(L++(List.range k).map fun i=>τ (d+i))[i])->
      (∀i (h:i<L.length),τ'' i=L[i])/\ ∀i,i<k->τ'' (L.length+i)=τ (d+i):=fun τ'' h=>by
    refine⟨fun i hi=> ?_,fun i hi=> ?_⟩
    · rw[h i (by rw[hlen];omega)];simp[hi]
    · rw[h (L.length+i) (by rw[hlen];omega)];simp
  have hr: ∀τ'':Nat->qS->Nat,(∀i (h:i<(L++(List.range k).map fun i=>τ (d+i)).length),τ'' i=(L++(List.range k).map fun i=>τ (d+i))[i])->
      runN P (n+1) (oneG g0 (w0.tp τ'' 0 noJ))= .next (oneG g' (w'.tp τ'' (L++(List.range k).map fun i=>τ (d+i)).length noJ)):=fun τ'' h=>by
    obtain⟨h1,h2⟩:=hL τ'' h;rw[runN_add,hx.reach τ'' h1,hlen];simp only[runN,hs' τ'' h2]
  refine⟨(g',w',L++(List.range k).map fun i=>τ (d+i)),⟨hf',hb',hr,fun m hm τ'' h m2 hm2 hst=> ?_⟩,List.prefix_append _ _⟩;by_cases hmn:m<=n
  · exact hx.early m hmn τ'' (hL τ'' h).1 m2 hm2 hst
  · obtain rfl:m=n+1:=by omega
    rw[hr τ'' h] at hm2;obtain⟨gx,wx,e,_,_,hsx⟩:=hst;simp only[Stepped.next.injEq] at hm2;rw[e] at hm2;have e1:g'=gx:=by have:=congrArg (fun m=>m.gs[0]?) hm2;simpa[oneG] using this
    have e2:(w'.tp τ'' (L++(List.range k).map fun i=>τ (d+i)).length noJ)=wx:=by have:=congrArg (fun m=>m.world) hm2;simpa[oneG] using this
    rw[<-e1,<-e2] at hsx;exact hb' (.stop ⟨hT _ _ _ _ hsx,hf'⟩)
theorem lJ (G:Good P) {Stop:gO->wD->Prop} (hT: ∀g w τ d,Stop g (w.tp τ d noJ)->Stop g w) {g:gO} {w:wD} (hf:Fine g w)
  (H: ∀τ,∃n m',runN P n (oneG g (w.tp τ 0 noJ))= .next m'/\rX Stop m'):Run P (gQ Stop) g w:=by
 classical
 refine Classical.byContradiction fun hbad=> ?_;have h0:pW P Stop g w 0 (g,w,[]):=by
  refine⟨hf,hbad,fun τ _=>rfl,fun m hm τ _ m' hm' hst=> ?_⟩;obtain rfl:m=0:=by omega
  simp only[runN,Stepped.next.injEq] at hm';obtain⟨gx,wx,e,_,_,hsx⟩:=hst;rw[e] at hm';have e1:g=gx:=by have:=congrArg (fun m=>m.gs[0]?) hm';simpa[oneG] using this
  have e2:w.tp τ 0 noJ=wx:=by have:=congrArg (fun m=>m.world) hm';simpa[oneG] using this
  rw[<-e1,<-e2] at hsx;exact hbad (.stop ⟨hT _ _ _ _ hsx,hf⟩)
 have nxt: ∀n (x:{x // pW P Stop g w n x}),∃y:{y // pW P Stop g w (n+1) y},x.1.2.2 <+: y.1.2.2:=fun n x=>by
  obtain⟨y,hy,hp⟩:=UE G hT H x.2;exact⟨⟨y,hy⟩,hp⟩
 let seq:(n:Nat)->{x // pW P Stop g w n x}:=fun n=>Nat.rec ⟨(g,w,[]),h0⟩ (fun n x=>Classical.choose (nxt n x)) n
 have hseq: ∀n,(seq n).1.2.2 <+: (seq (n+1)).1.2.2:=fun n=>Classical.choose_spec (nxt n (seq n));have hmono: ∀m k,(seq m).1.2.2 <+: (seq (m+k)).1.2.2:=fun m k=>by
  induction k with
  |zero=>exact List.prefix_refl _
  |succ k ih=>exact ih.trans (hseq (m+k))
 have hagree: ∀m n i (h1:i<(seq m).1.2.2.length) (h2:i<(seq n).1.2.2.length),(seq m).1.2.2[i]=(seq n).1.2.2[i]:=fun m n i h1 h2=>by
  have e1:=(hmono m n).getElem h1;have e2:=(hmono n m).getElem h2;have key: ∀a b,a=b-> ∀(h1:i<(seq a).1.2.2.length) (h2:i<(seq b).1.2.2.length),(seq a).1.2.2[i]=(seq b).1.2.2[i]:=by
   rintro a _ rfl _ _;rfl
  rw[e1,e2];exact key _ _ (Nat.add_comm m n) _ _
 let τ:Nat->qS->Nat:=fun i=>if h: ∃m,i<(seq m).1.2.2.length then (seq (Classical.choose h)).1.2.2[i]'(Classical.choose_spec h) else fun _=>0
 have hτ: ∀n i (h:i<(seq n).1.2.2.length),τ i=(seq n).1.2.2[i]:=fun n i h=>by
  have hex: ∃m,i<(seq m).1.2.2.length:=⟨n,h⟩
  show (if h: ∃m,i<(seq m).1.2.2.length then (seq (Classical.choose h)).1.2.2[i]'(Classical.choose_spec h) else fun _=>0)=_
  rw[dif_pos hex];exact hagree _ _ _ _ _
 obtain⟨N,m',hN,hstop⟩:=H τ;exact(seq N).2.early N (nR _) τ (hτ N) m' hN hstop
theorem UF (G:Good P) {f:FuncId} {args:Array Value} {c:fR} {cs:List fR} {w:wD} {R:Value->wD->Prop} (hc:aP c) (hcs: ∀x∈cs,aP x) (hs:Started w)
  (hR: ∀v w τ d,R v (w.tp τ d noJ)->R v w) (h: ∀τ,Calls P f args (w.tp τ 0 noJ) fun e w'=> ∃v,e= .returned v/\R v w'):
  Run P (gQ fun g w'=> ∃v,g={frame:=c.finish v,callers:=cs,status:= .running,dying:=none}/\R v w') {frame:=Frame.enter P f args .normal,callers:=c::cs,status:= .running,dying:=none} w:=by
 refine lJ G (fun g w τ d ⟨v,e,r⟩=>⟨v,e,hR _ _ _ _ r⟩) ⟨⟨nG G.bodies _ _ (by decide),fun x hx=> ?_⟩,rfl,rfl,hs⟩ fun τ=> ?_
 ·rcases List.mem_cons.1 hx with rfl |hx
  ·exact hc
  ·exact hcs x hx
 ·obtain⟨e,w',fr,⟨v,rfl,r⟩,⟨n,hn⟩,_,hl⟩:=h τ (c::cs);refine⟨n+1,lone (c.finish v) cs w', ?_,_,w',rfl,rfl,rfl,v,rfl,r⟩;rw[runN_add]
  change runN P n (lone (Frame.enter P f args .normal) (c::cs) (w.tp τ 0 noJ))=_ at hn
  rw[show oneG {frame:=Frame.enter P f args .normal,callers:=c::cs,status:= .running,dying:=none} (w.tp τ 0 noJ)=lone (Frame.enter P f args .normal) (c::cs) (w.tp τ 0 noJ) from rfl,hn];simp only[runN,step_leave_returned hl]
end
end Go.Tp
namespace Go.Tp
open Go.Conc Go.ConcN
section
variable {P:pQ}
abbrev pX:Loc->Prop:=fun _=>False
theorem UG {N:Nat} {e:Event} (h:okE N e):EvL pX N e:=by
 obtain⟨loc,wr,sy⟩:=e;obtain⟨h1,h2⟩:=h;refine⟨fun _ _ hs=>hs.elim, ?_, ?_, ?_⟩
 ·rcases h1 with ⟨m,h1,hm⟩ |h1
  ·simp only at h1;subst h1;intro e;cases e;exact hm
  ·exact h1 _
 ·rcases h1 with ⟨m,h1,hm⟩ |h1
  ·simp only at h1;subst h1;intro e;cases e;exact hm
  ·exact h1 _
 ·cases loc with
  |mark m=>
   rcases h1 with ⟨m',h1,hm⟩ |h1
   ·simp only[Loc.mark.injEq] at h1;subst h1
    cases m<;>first |exact trivial |exact hm.elim
   ·exact absurd rfl (h1 m)
  |obj r=>cases wr<;>cases sy<;>exact h2
  |cell a=>rw[show MemAct.ofEvent ⟨.cell a,wr,sy⟩= .access ⟨.cell a,wr,sy⟩ from rfl];exact h2
  |output=>exact trivial
  |goroutines=>exact trivial
theorem Ae {g:Nat} {fn:FuncId} {pos:String} {es:Array Event} {op:MemOp} (h:op∈MemOp.ofEvents g fn pos es):op.g=g:=by
 obtain⟨e,_,rfl⟩:=Go.Conc.mem_ofEvents h;rfl
theorem UH {Stop:gO->wD->Prop} {T:Nat->qS->Nat} {j:aW} (hj:j.ok) {g:gO} {w:wD} (h:Run P Stop g w):
  ∀(gs:Array gO) (d:Nat) (sl:Option (Nat×Nat)) (t:Trace) (q:Nat->Nat),gs[0]? =some g->Leavers P t gs q->Past pX w.heap.size t->
   ∃(N:Nat) (gs':Array gO) (g':gO) (w':wD) (d':Nat) (sl':Option (Nat×Nat)) (t':Trace) (q':Nat->Nat),
    runNT P N (crowd gs (w.tp T d j) sl) t=(.next (crowd gs' (w'.tp T d' j) sl'),t')/\gs'.size=gs.size/\gs'[0]? =some g'/\Stop g' w'/\Leavers P t' gs' q'/\Past pX w'.heap.size t'/\w.heap.size<=w'.heap.size:=by
 induction h with
 |stop hs=>exact fun gs d sl t q h0 hL hP=>⟨0,gs,_,_,d,sl,t,q,rfl,rfl,h0,hs,hL,hP,nR _⟩
 | @step g w next hrun hr hE ih=>
  intro gs d sl t q h0 hL hP;generalize hM:sumTo gs.size q=M
  induction M using Nat.strongRecOn generalizing gs d sl t q with
  |_ M ihM=>
  have haw: ∀g∈gs,awake g:=by
   intro x hx;obtain⟨i,hi,rfl⟩:=Array.mem_iff_getElem.1 hx
   rcases Nat.eq_zero_or_pos i with rfl |hpos
   ·have:gs[0]=g:=by simpa[aG hi] using h0
    rw[this];exact awake_of (.inl hrun)
   ·exact awake_of ((hL.old i _ hpos (aG hi)).status.elim .inl fun x=> .inr (.inr x))
  obtain⟨i,gi,d1,sl',hi,hg,hst⟩:=crowd_pick (P:=P) (w:=w.tp T d j) (sl:=sl) haw ⟨0,g,h0,hrun⟩
  rcases Nat.eq_zero_or_pos i with rfl |hpos
  ·obtain rfl:gi=g:=by rw[h0] at hi;exact(Option.some.inj hi).symm
   obtain⟨es,hes,hgo⟩:=(hE T d1).step j hj;generalize hn:next T d1=nx at hgo hes;have hroom:=(hE T d1).room;have ih':=ih T d1;rw[hn] at hroom ih';obtain⟨k,a',w'⟩:=nx;have hrunT:=runT_crowd_go (P:=P) (sl:=sl') (i:=0) hi (show stepG P (0==0) gi ((w.tp T d j).at d1)= .go a' (w'.tp T (d1+k) j) es from hgo);have hsz:((gs.map (woken P gi a' (w'.tp T (d1+k) j))).setIfInBounds 0 a').size=gs.size:=by simp
   have hlt:0<gs.size:=(aS.1 h0).1;obtain⟨N,gs',a'',w'',d'',sl'',t',q',hr',hs',h0',hS,hL',hP',hroom'⟩:=ih' ((gs.map (woken P gi a' (w'.tp T (d1+k) j))).setIfInBounds 0 a') (d1+k) sl' (t++MemOp.ofEvents 0 gi.frame.fn gi.frame.place es) q (by simp[hlt])
    ⟨fun m x hm hx=>by
     have hne:0≠m:=by omega
     rw[Array.getElem?_setIfInBounds_ne hne,Array.getElem?_map] at hx;obtain⟨y,hy,rfl⟩:=Option.map_eq_some_iff.1 hx;have hq:=hL.old m y hm hy;rw[woken_quitsD hq,Deaf_other t (by omega) _ (fun op hop=>Ae hop)];exact hq,fun m hm=>by
     rw[Deaf_other t (g':=0) (by simp at hm;omega) _ (fun op hop=>Ae hop)];exact hL.above m (by simpa using hm)⟩
    ((hP.mono hroom).own fun e he=>UG (hes e he))
   exact⟨N+1,gs',a'',w'',d'',sl'',t',q',by simp only[runNT,hst,hrunT];exact hr',hs'.trans hsz,h0',hS,hL',hP',Nat.le_trans hroom hroom'⟩
  ·have hq:=hL.old i gi hpos hi;have hi0:(i==0)=false:=by simp;omega
   have hlt:i<gs.size:=(aS.1 hi).1
   cases hqi:q i with
   |zero=>rw[hqi] at hq;rw[hq.1] at hg;cases hg
   |succ k=>
    rw[hqi] at hq
    rcases hq with ⟨hf,_⟩ |⟨_,g',es,hm,hstp,hq'⟩
    ·rw[hf] at hg;cases hg
    have hrunT:=runT_crowd_go (P:=P) (sl:=sl') (i:=i) hi (by rw[hi0];exact hstp ((w.tp T d j).at d1));have hsz:((gs.map (woken P gi g' ((w.tp T d j).at d1))).setIfInBounds i g').size=gs.size:=by simp
    have hsum:sumTo gs.size (upd q i k)+(k+1)=sumTo gs.size q+k:=by
     have:=sumTo_upd q k id hlt;simpa[hqi] using this
    obtain⟨N,gs',a'',w'',d'',sl'',t',q',hr',hs',h0',hS,hL',hP',hroom'⟩:=ihM (sumTo gs.size (upd q i k)) (by omega) ((gs.map (woken P gi g' ((w.tp T d j).at d1))).setIfInBounds i g') d1 sl' (t++MemOp.ofEvents i gi.frame.fn gi.frame.place es) (upd q i k)
     (by
      have hne:i≠0:=by omega
      rw[Array.getElem?_setIfInBounds_ne hne,Array.getElem?_map,h0];simp[woken_run hrun])
     ⟨fun m x hm hx=>by
      by_cases hji:i=m
      ·subst hji;rw[Array.getElem?_setIfInBounds_self_of_lt (by simpa using hlt)] at hx;obtain rfl:=Option.some.inj hx;rw[upd_same,Deaf_own];exact hq'
      ·rw[Array.getElem?_setIfInBounds_ne hji,Array.getElem?_map] at hx;obtain⟨y,hy,rfl⟩:=Option.map_eq_some_iff.1 hx;have hqj:=hL.old m y hm hy;rw[woken_quitsD hqj,upd_ne q k (Ne.symm hji),Deaf_other t hji _ (fun op hop=>Ae hop)];exact hqj,fun m hm=>by
      rw[Deaf_other t (g':=i) (by simp at hm;omega) _ (fun op hop=>Ae hop)];exact hL.above m (by simpa using hm)⟩
     (hP.mute (by omega) hm) (by rw[hsz])
    exact⟨N+1,gs',a'',w'',d'',sl'',t',q',by simp only[runNT,hst,hrunT];exact hr',hs'.trans hsz,h0',hS,hL',hP',hroom'⟩
end
end Go.Tp
