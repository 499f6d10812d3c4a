/- A part of the proof of RentMoreTrunks; no conditions of its own. -/
import Derived.Test.YtaikibfkggglgaaDoorX07
set_option maxRecDepth 100000
namespace Go.Tp
section
variable {P : Program} {F : FuncId -> Bool} {R : Rl}
def constS : Value -> Bool
 | .bool _ | .int .. | .float .. | .complex .. | .string _ | .pointer none | .slice none _ _ | .map none | .chan none | .nilFunc | .nilIface => true
 | _ => false
theorem vr_const {v : Value} (h : constS v = true) : VR F R v v := by
 cases v with
 | pointer a => cases a with
  | none => exact .nilPointer
  | some a => cases h
 | slice a n c => cases a with
  | none => exact .nilSlice n c
  | some a => cases h
 | map a => cases a with
  | none => exact .nilMap
  | some a => cases h
 | chan a => cases a with
  | none => exact .nilChan
  | some a => cases h
 | bool b => exact .bool b
 | int k n => exact .int k n
 | float k n => exact .float k n
 | complex k n m => exact .complex k n m
 | string s => exact .string s
 | nilFunc => exact .nilFunc
 | nilIface => exact .nilIface
 | _ => cases h
def opdS (F : FuncId -> Bool) (Gl : Nat -> Bool) : Operand -> Bool
 | .tmp _ => true
 | .const v => constS v
 | .global g => Gl g
 | .func f => F f
def lenS (P : Program) (t : TypeId) : Bool := match P.underlying t with
 | some (.slice _) | some (.array ..) | some .string => true
 | _ => false
def closedS : Nat -> Value -> Bool
 | n + 1, .agg c => c.all (closedS n)
 | n + 1, .tuple c => c.all (closedS n)
 | _, v => constS v
theorem vr_closed : ∀ (n : Nat) (v : Value), closedS n v = true -> VR F R v v
 | 0, v, h => vr_const (by cases v <;> first | exact h | cases h)
 | n + 1, v, h => by
  have key : ∀ c : Array Value, c.all (closedS n) = true -> ∀ (i : Nat) (a a' : Value), c[i]? = some a -> c[i]? = some a' -> VR F R a a' := fun c hc i a a' e e' => by
   rw [e, Option.some.injEq] at e'
   subst e'
   rw [Array.all_eq_true_iff_forall_mem] at hc
   exact vr_closed n a (hc a (Array.mem_of_getElem? e))
  cases v with
  | agg c => exact .agg rfl (key c h)
  | tuple c => exact .tuple rfl (key c h)
  | _ => exact vr_const h
def zeroS (P : Program) (t : TypeId) : Bool := match (P.info? t).bind (·.zero) with
 | some z => closedS 6 z
 | none => true
theorem zeroAt_of {t : TypeId} (h : zeroS P t = true) : ZeroAt P F t := by
 intro i z hi hz R
 unfold zeroS at h
 rw [hi, Option.bind_some, hz] at h
 exact vr_closed 6 z h
def opS (P : Program) (F : FuncId -> Bool) (Gl : Nat -> Bool) (o : Oper) : Bool := match o.op with
 | .move x | .assign x | .box _ x | .load _ x | .fieldAddr _ x _ | .extract x _ => opdS F Gl x
 | .alloc t => zeroS P t
 | .build t parts => zeroS P t && parts.all fun p => opdS F Gl p.2
 | .store _ a x | .indexAddr _ a x => opdS F Gl a && opdS F Gl x
 | .binOp op t x y _ => binOk P op t && opdS F Gl x && opdS F Gl y
 | .makeFunc (.func f) first captured => F f && first.all (opdS F Gl) && captured.all (opdS F Gl)
 | .call { callee := .value f, args, .. } => opdS F Gl f && args.all (opdS F Gl)
 | .call { callee := .builtin .len, args, argTypes } => match args.toList, argTypes[0]? with
  | [x], some t => opdS F Gl x && lenS P t
  | _, _ => false
 | .call { callee := .builtin .min, args, .. } => args.all (opdS F Gl)
 | _ => false
structure FOk (P : Program) (F : FuncId -> Bool) : Prop where
 body : ∀ f, F f = true -> ∃ fn b, P.funcs[f]? = some fn /\ fn.body = some b /\ (fn.name == "runtime.NumGoroutine") = false
def ER (F : FuncId -> Bool) (Gl : Nat -> Bool) (R : Rl) (ρ ρ' : Operand -> Value) : Prop := ∀ x, opdS F Gl x = true -> VR F R (ρ x) (ρ' x)
theorem ER.mono {Gl : Nat -> Bool} {R' : Rl} {ρ ρ' : Operand -> Value} (h : ER F Gl R ρ ρ') (hR : R.le R') : ER F Gl R' ρ ρ' := fun x hx => (h x hx).mono hR
inductive NextR (F : FuncId -> Bool) (R : Rl) : Next -> Next -> Prop
 | value {v v' : Value} : VR F R v v' -> NextR F R (.value v) (.value v')
 | skip : NextR F R .skip .skip
 | enter (f : FuncId) {a a' : Array Value} : F f = true -> VRs F R a a' -> NextR F R (.enter f a) (.enter f a')
variable {Gl : Nat -> Bool} {ρ ρ' : Operand -> Value}
theorem vrs_map (hE : ER F Gl R ρ ρ') {a : Array Operand} (ha : a.all (opdS F Gl) = true) : VRs F R (a.map ρ) (a.map ρ') := by
 refine ⟨by simp, fun i v v' h h' => ?_⟩
 rw [Array.getElem?_map] at h h'
 cases e : a[i]? with
 | none => rw [e] at h; cases h
 | some x =>
  rw [e] at h h'
  simp only [Option.map_some, Option.some.injEq] at h h'
  subst h h'
  exact hE x (by rw [Array.all_eq_true_iff_forall_mem] at ha; exact ha x (Array.mem_of_getElem? e))
theorem VRs.append {a a' b b' : Array Value} (h : VRs F R a a') (h' : VRs F R b b') : VRs F R (a ++ b) (a' ++ b') := by
 refine ⟨by simp [h.size, h'.size], fun i v v' e e' => ?_⟩
 rw [Array.getElem?_append] at e e'
 rw [<- h.size] at e'
 by_cases hi : i < a.size
 ·rw [if_pos hi] at e e'; exact h.get i v v' e e'
 ·rw [if_neg hi] at e e'; exact h'.get _ v v' e e'
theorem sim_value {s s' : Sem Value} (h : Sim P F (fun R v v' => VR F R v v') R s s') : Sim P F (fun R n n' => NextR F R n n') R (do pure (.value (<- s))) (do pure (.value (<- s'))) :=
 sim_bind h fun _ _ _ _ hv => sim_pure fun _ h2 => .value (hv.mono h2)
theorem sim_unit {s s' : Sem Unit} (h : Sim P F (fun _ _ _ => True) R s s') : Sim P F (fun R n n' => NextR F R n n') R (do s; pure .skip) (do s'; pure .skip) :=
 sim_bind h fun _ _ _ _ _ => sim_pure fun _ _ => .skip
theorem sim_callFunc (hF : FOk P F) {f : FuncId} (hf : F f = true) {a a' : Array Value} (ha : VRs F R a a') : Sim P F (fun R n n' => NextR F R n n') R (callFunc f a) (callFunc f a') := by
 unfold callFunc
 refine sim_bind sim_program fun R1 h1 p p' hp => ?_
 obtain ⟨rfl, rfl⟩ := hp
 obtain ⟨fn, b, e1, e2, e3⟩ := hF.body f hf
 have e4 : fn.body.isNone = false := by rw [e2]; rfl
 simp only [e1, e3, e4, Bool.false_eq_true, if_false]
 exact sim_pure fun _ h2 => .enter f hf ((ha.mono h1).mono h2)
theorem sim_callValue (hF : FOk P F) {v v' : Value} (hv : VR F R v v') {a a' : Array Value} (ha : VRs F R a a') :
  Sim P F (fun R n n' => NextR F R n n') R (do let d <- Deferred.ofValue v a; invoke d.target d.args) (do let d <- Deferred.ofValue v' a'; invoke d.target d.args) := by
 cases hv with
 | func f hf h1 h2 h3 h4 =>
  intro R1 hR
  exact sim_callFunc (R := R) hF hf ((VRs.append (VRs.append ⟨h1, h2⟩ ha) ⟨h3, h4⟩)) R1 hR
 | nilFunc =>
  intro R1 hR w u hw es x w1 es1 hr
  have h0 := noOk_runtimePanic (P := P) (α := Next) .nilDeref w es x w1 es1
  exact absurd hr h0
 | _ => exact sim_noOk (noOk_bind' (noOk_halt _)) _
where
 noOk_bind' {α β : Type} {s : Sem β} {f : β -> Sem α} (h : NoOk P s) : NoOk P (s >>= f) := fun w es a w1 es1 hr => by
  rw [runT_bind] at hr
  cases hs : s.runT P w es with
  | mk r e =>
   rw [hs] at hr
   cases r with
   | ok b w2 => exact h _ _ _ _ _ hs
   | halt x w2 => cases hr
theorem sim_foldMin : ∀ {l l' : List Value} {R : Rl} {v v' : Value}, VRl F R l l' -> VR F R v v' -> Sim P F (fun R v v' => VR F R v v') R (l.foldlM Builtin.min2 v) (l'.foldlM Builtin.min2 v')
 | [], _, R, v, v', h, hv => by cases h; exact sim_pure fun _ h2 => hv.mono h2
 | x :: _, _, R, v, v', h, hv => by
  cases h with
  | cons hx hl =>
   rw [List.foldlM_cons, List.foldlM_cons]
   exact sim_bind (sim_min2 hv hx) fun R1 h1 _ _ hz => sim_foldMin (hl.mono h1) hz
theorem sim_min {a a' : Array Value} (h : VRs F R a a') (ts : Array TypeId) (t : TypeId) : Sim P F (fun R v v' => VR F R v v') R (Builtin.min_ ts t a) (Builtin.min_ ts t a') := by
 have hl := h.toList
 unfold Builtin.min_
 generalize a.toList = l at hl
 generalize a'.toList = l' at hl
 cases hl with
 | nil => exact sim_noOk (noOk_halt _) _
 | cons hx hl => exact sim_foldMin hl hx
theorem prl_map (hE : ER F Gl R ρ ρ') : ∀ {l : List (Nat × Operand)}, (∀ p ∈ l, opdS F Gl p.2 = true) -> PRl F R (l.map fun p => (p.1, ρ p.2)) (l.map fun p => (p.1, ρ' p.2))
 | [], _ => .nil
 | p :: _, h => .cons _ (hE _ (h p (List.mem_cons_self ..))) (prl_map hE fun q hq => h q (List.mem_cons_of_mem _ hq))
theorem sim_execOp (hF : FOk P F) {o : Oper} (ho : opS P F Gl o = true) (hE : ER F Gl R ρ ρ') : Sim P F (fun R n n' => NextR F R n n') R (execOp ρ o) (execOp ρ' o) := by
 obtain ⟨dst, op, ty, pos, after, guard⟩ := o
 unfold opS at ho
 dsimp only at ho
 split at ho
 ·exact sim_pure fun _ h => .value ((hE _ ho).mono h)
 ·exact sim_pure fun _ h => .value ((hE _ ho).mono h)
 ·exact sim_value (sim_box (hE _ ho) _)
 ·exact sim_value (sim_loadAt (hE _ ho) _)
 ·exact sim_value (sim_fieldAt (hE _ ho) _ _)
 ·exact sim_value (sim_extract (hE _ ho) _)
 ·exact sim_value (sim_alloc (zeroAt_of ho))
 ·rename_i t parts
  simp only [Bool.and_eq_true] at ho
  refine sim_value (sim_build (zeroAt_of ho.1) ?_)
  obtain ⟨_, ho⟩ := ho
  rw [Array.all_eq_true_iff_forall_mem] at ho
  rw [Array.toList_map, Array.toList_map]
  exact prl_map hE fun p hp => ho p (by simpa using hp)
 ·simp only [Bool.and_eq_true] at ho
  exact sim_unit (sim_storeAt (hE _ ho.1) (hE _ ho.2) _)
 ·simp only [Bool.and_eq_true] at ho
  exact sim_value (sim_indexAt (hE _ ho.1) (hE _ ho.2) _)
 ·simp only [Bool.and_eq_true] at ho
  obtain ⟨⟨h1, h2⟩, h3⟩ := ho
  rename_i op t x y _
  by_cases hp : ρ x = .tuple #[] \/ ρ y = .tuple #[]
  ·exact sim_value (sim_noOk (noOk_bind fun _ => noOk_binOp h1 _ _ hp) _)
  ·refine sim_value (sim_bind (sim_eqGuard h1 _ _ (hE _ h2) (hE _ h3) (fun e => hp (.inl e)) fun e => hp (.inr e)) fun R1 hR1 _ _ _ => ?_)
   exact sim_binOp h1 ((hE _ h2).mono hR1) ((hE _ h3).mono hR1)
 ·simp only [Bool.and_eq_true] at ho
  obtain ⟨⟨h1, h2⟩, h3⟩ := ho
  exact sim_value (sim_makeFunc _ h1 (vrs_map hE h2) (vrs_map hE h3))
 ·simp only [Bool.and_eq_true] at ho
  exact sim_callValue hF (hE _ ho.1) (vrs_map hE ho.2)
 ·rename_i args argTypes
  split at ho
  ·rename_i x t e1 e2
   simp only [Bool.and_eq_true] at ho
   obtain ⟨h1, h2⟩ := ho
   have ea : args = #[x] := by apply Array.ext'; simpa using e1
   subst ea
   have ht : (∃ e, P.underlying t = some (.slice e)) \/ (∃ n e, P.underlying t = some (.array n e)) \/ P.underlying t = some .string := by
    unfold lenS at h2
    split at h2 <;> first
     | (rename_i e; exact .inl ⟨_, e⟩)
     | (rename_i e; exact .inr (.inl ⟨_, _, e⟩))
     | (rename_i e; exact .inr (.inr e))
     | cases h2
   have e3 : #[x].map ρ = #[ρ x] := by simp
   have e4 : #[x].map ρ' = #[ρ' x] := by simp
   have key := sim_value (sim_len (P := P) ht argTypes e2 ty (hE x h1))
   rw [<- e3, <- e4] at key
   intro R1 hR
   exact key R1 hR
  ·cases ho
 ·rename_i args argTypes
  intro R1 hR
  exact sim_value (sim_min (vrs_map hE ho) argTypes ty) R1 hR
 ·cases ho
end
section
open Go.Conc (mem_seen)
section
variable (P : Program) (F : FuncId -> Bool) (Gl : Nat -> Bool)
def opC (o : Oper) : Bool := opS P F Gl o || (match o.op with | .send .. => true | _ => false)
def codeC : Code -> Bool
 | .region _ ops _ => ops.all (opC P F Gl)
 | .seq a b => codeC a && codeC b
 | .cond c a b => opdS F Gl c && codeC a && codeC b
 | .block _ c | .loop c | .scope c => codeC c
 | .skip | .exit _ | .label _ | .ret => true
 | _ => false
def itemC : Item -> Bool
 | .code c | .inLoop c | .inScope c => codeC P F Gl c
 | .inRegion ops _ => ops.all (opC P F Gl)
 | .inBlock _ => true
 | _ => false
structure FC : Prop where
 body : ∀ f, F f = true -> ∃ fn b, P.funcs[f]? = some fn /\ fn.body = some b /\ (fn.name == "runtime.NumGoroutine") = false /\ codeC P F Gl b = true /\ P.inits.idxOf? f = none
structure FrR (R : Rl) (fr fr' : Frame) : Prop where
 fn : fr'.fn = fr.fn
 known : F fr.fn = true
 todo : fr'.todo = fr.todo
 items : ∀ it ∈ fr.todo, itemC P F Gl it = true
 defers : fr.defers = []
 defers' : fr'.defers = []
 mode : fr'.mode = fr.mode
 kind : fr.kind ≠ .early
 kind' : fr'.kind = fr.kind
 round : fr.roundOf = none
 round' : fr'.roundOf = none
 tmps : VRs F R fr.tmps fr'.tmps
inductive FrL (tl : List Frame) (R : Rl) : List Frame -> List Frame -> Prop
 | nil : FrL tl R [] tl
 | cons {fr fr' : Frame} {l l' : List Frame} : FrR P F Gl R fr fr' -> (l = [] \/ fr.kind = .normal) -> FrL tl R l l' -> FrL tl R (fr :: l) (fr' :: l')
def Doomed (g : Goroutine) : Prop := g.status ≠ .running \/ g.dyingOn P \/
 (g.dying = none /\ (∃ c, g.frame.mode = .panicking c) /\ ∀ fr ∈ g.frame :: g.callers, fr.defers = [] /\ ∃ fn, P.funcs[fr.fn]? = some fn)
end
section
variable {P : Program} {F : FuncId -> Bool} {Gl : Nat -> Bool} {tl : List Frame} {R : Rl}
theorem FC.ok (h : FC P F Gl) : FOk P F := ⟨fun f hf => let ⟨fn, b, h1, h2, h3, _⟩ := h.body f hf; ⟨fn, b, h1, h2, h3⟩⟩
theorem FrR.mono {R' : Rl} {fr fr' : Frame} (h : FrR P F Gl R fr fr') (hR : R.le R') : FrR P F Gl R' fr fr' := { h with tmps := h.tmps.mono hR }
theorem FrL.mono {R' : Rl} {l l' : List Frame} (h : FrL P F Gl tl R l l') (hR : R.le R') : FrL P F Gl tl R' l l' := by
 induction h with
 | nil => exact .nil
 | cons h hk _ ih => exact .cons (h.mono hR) hk ih
theorem FrL.all {l l' : List Frame} (h : FrL P F Gl tl R l l') (hF : FC P F Gl) : ∀ fr ∈ l, fr.defers = [] /\ ∃ fn, P.funcs[fr.fn]? = some fn := by
 induction h with
 | nil => intro fr h; cases h
 | cons h _ _ ih =>
  intro fr hm
  rcases List.mem_cons.1 hm with rfl | hm
  ·obtain ⟨fn, b, h1, _⟩ := hF.body _ h.known
   exact ⟨h.defers, fn, h1⟩
  ·exact ih fr hm
theorem raise_mode (fr : Frame) (c : List PanicEntry) : ∃ c', (fr.raise c).mode = .panicking c' := by
 unfold Frame.raise
 split <;> exact ⟨_, rfl⟩
theorem raise_rest (fr : Frame) (c : List PanicEntry) : (fr.raise c).defers = fr.defers /\ (fr.raise c).fn = fr.fn := by
 unfold Frame.raise
 split <;> exact ⟨rfl, rfl⟩
theorem doomed_raise {fr : Frame} {cs : List Frame} {c : List PanicEntry} {st : GoStatus} {off : Option (Array CommCase × CommShape)} (h : ∀ x ∈ fr :: cs, x.defers = [] /\ ∃ fn, P.funcs[x.fn]? = some fn) :
  Doomed P { frame := fr.raise c, callers := cs, status := st, dying := none, offers := off } := by
 refine .inr (.inr ⟨rfl, raise_mode fr c, fun x hx => ?_⟩)
 rcases List.mem_cons.1 hx with rfl | hm
 ·have := h fr (List.mem_cons_self ..)
  rw [(raise_rest fr c).1, (raise_rest fr c).2]; exact this
 ·exact h x (List.mem_cons_of_mem _ hm)
theorem doomed_step (noEnter : ∀ todo, NoEnter P todo) {g g1 : Goroutine} {w w1 : World} {es : Array Event} (h : Doomed P g) (hr : g.status = .running) (hs : stepG P true g w = .go g1 w1 es) : Doomed P g1 := by
 rcases h with h | h | ⟨hd, ⟨c, hc⟩, hall⟩
 ·exact absurd hr h
 ·have := stepG_okD w h
  rw [hs] at this
  exact .inr (.inl this)
 ·obtain ⟨fr, cs, st, dy, off⟩ := g
  simp only at hd hc hall
  subst hd
  obtain ⟨h1, fn, h2⟩ := hall fr (List.mem_cons_self ..)
  have hcat : fr.catches P = false := by unfold Frame.catches; rw [h2]
  have e : stepG P true { frame := fr, callers := cs, status := st, dying := none, offers := off } w = unwind P true fr cs none w := by
   unfold stepG; dsimp only; simp only [hc]
  rw [e] at hs
  unfold unwind at hs
  rw [h1, hc] at hs
  dsimp only at hs
  rw [hcat] at hs
  simp only [Bool.false_eq_true, if_false] at hs
  cases cs with
  | cons c0 rest =>
   simp only [GStep.go.injEq] at hs
   obtain ⟨rfl, _, _⟩ := hs
   exact doomed_raise fun x hx => hall x (List.mem_cons_of_mem _ hx)
  | nil =>
   dsimp only at hs
   split at hs
   ·simp only [GStep.go.injEq] at hs
    obtain ⟨rfl, _, _⟩ := hs
    exact .inl (by simp)
   ·split at hs
    ·rename_i todo w2 _
     simp only [GStep.go.injEq] at hs
     obtain ⟨rfl, _, _⟩ := hs
     exact .inr (.inl ⟨.inl rfl, _, rfl, rfl, noEnter todo⟩)
    ·cases hs
    ·cases hs
theorem run_doomed (noEnter : ∀ todo, NoEnter P todo) {Stop : Goroutine -> World -> Prop} (hS : ∀ g w, Stop g w -> ¬ Doomed P g) {g : Goroutine} {w : World} (h : Run P Stop g w) : ¬ Doomed P g := by
 induction h with
 | stop h => exact hS _ _ h
 | @step g w next hrun _ hE ih =>
  intro hd
  obtain ⟨es, _, hs⟩ := (hE default 0).step noJ noJ_ok
  exact ih default 0 (doomed_step noEnter hd hrun hs)
theorem step_form (G : Good P) {g g1 : Goroutine} {w w1 : World} {es : Array Event} (hg : GoodG g) (hd : g.dying = none) (hs : Started w) (h : stepG P true g w = .go g1 w1 es) :
  (GoodG g1 /\ g1.dying = none /\ Started w1) \/ Doomed P g1 := by
 obtain ⟨k, st, hF, _, hok, _⟩ := tl_stepG G (main := true) hg hd hs
 obtain ⟨es', _, e⟩ := hF w.tape w.drawn noJ noJ_ok (fun j _ => rfl) (.inl rfl)
 rw [tp_self] at e
 simp only [h] at e
 cases st with
 | go g2 w2 es2 =>
  simp only [GStep.tp, GStep.after, GStep.go.injEq] at e
  obtain ⟨rfl, rfl, _⟩ := e
  rcases hok with ⟨h1, h2, h3, h4⟩ | hdy
  ·exact .inl ⟨h1, h2, started_tp h4 _ _⟩
  ·exact .inr (.inr (.inl hdy))
 | _ => simp [GStep.tp, GStep.after] at e
theorem finish_FrR {fr fr' : Frame} (h : FrR P F Gl R fr fr') {v v' : Value} (hv : VR F R v v') : FrR P F Gl R (fr.finish v) (fr'.finish v') := by
 obtain ⟨fn, tmps, todo, defers, mode, kind, round⟩ := fr
 obtain ⟨fn', tmps', todo', defers', mode', kind', round'⟩ := fr'
 obtain ⟨h1, h2, h3, h4, h5, h6, h7, h8, h9, h10, h11, h12⟩ := h
 simp only at h1 h2 h3 h4 h5 h6 h7 h8 h9 h10 h11 h12
 subst h3
 cases todo' with
 | nil => exact ⟨h1, h2, rfl, h4, h5, h6, h7, h8, h9, h10, h11, h12⟩
 | cons it k =>
  have hit := h4 it (List.mem_cons_self ..)
  have hk : ∀ x ∈ k, itemC P F Gl x = true := fun x hx => h4 x (List.mem_cons_of_mem _ hx)
  cases it with
  | inRegion ops l =>
   cases l with
   | nil => exact ⟨h1, h2, rfl, h4, h5, h6, h7, h8, h9, h10, h11, h12⟩
   | cons i rest =>
    refine ⟨h1, h2, rfl, fun x hx => ?_, h5, h6, h7, h8, h9, h10, h11, ?_⟩
    ·rcases List.mem_cons.1 hx with rfl | hx
     ·exact hit
     ·exact hk x hx
    ·simp only [Frame.finish]
     cases (ops[i]?).bind (·.dst) with
     | none => exact h12
     | some d => exact h12.set hv d
  | code c => exact ⟨h1, h2, rfl, h4, h5, h6, h7, h8, h9, h10, h11, h12⟩
  | inBlock c => exact ⟨h1, h2, rfl, h4, h5, h6, h7, h8, h9, h10, h11, h12⟩
  | inLoop c => exact ⟨h1, h2, rfl, h4, h5, h6, h7, h8, h9, h10, h11, h12⟩
  | inScope c => exact ⟨h1, h2, rfl, h4, h5, h6, h7, h8, h9, h10, h11, h12⟩
  | _ => cases hit
theorem vrs_replicate (n : Nat) {v v' : Value} (h : VR F R v v') : VRs F R (Array.replicate n v) (Array.replicate n v') := by
 refine ⟨by simp, fun i a a' e e' => ?_⟩
 rw [Array.getElem?_replicate] at e e'
 split at e <;> simp_all
theorem enter_FrR (hF : FC P F Gl) {f : FuncId} (hf : F f = true) {a a' : Array Value} (ha : VRs F R a a') : FrR P F Gl R (Frame.enter P f a .normal) (Frame.enter P f a' .normal) := by
 obtain ⟨fn, b, h1, h2, h3, h4, h5⟩ := hF.body f hf
 refine ⟨rfl, hf, rfl, fun it hit => ?_, rfl, rfl, rfl, by simp [Frame.enter], rfl, rfl, rfl, ?_⟩
 ·simp only [Frame.enter, h1, h2, Option.bind_some, Option.getD_some, List.mem_cons, List.not_mem_nil, or_false] at hit
  subst hit
  exact h4
 ·simp only [Frame.enter]
  rw [ha.size]
  exact ha.append (vrs_replicate _ vr_undef)
theorem after_go {es es1 : Array Event} {s : GStep} {g : Goroutine} {w : World} (h : GStep.after es s = .go g w es1) : ∃ es2, s = .go g w es2 := by
 cases s <;> simp only [GStep.after, GStep.go.injEq] at h <;> first | (cases h; done) | exact ⟨_, by rw [h.1, h.2.1]⟩
structure GoK (P : Program) (F : FuncId -> Bool) (Gl : Nat -> Bool) (tl : List Frame) (R : Rl) (g g' : Goroutine) : Prop where
 frame : FrR P F Gl R g.frame g'.frame
 callers : FrL P F Gl tl R g.callers g'.callers
 run : g.status = .running
 run' : g'.status = .running
 alive : g.dying = none
 alive' : g'.dying = none
 mode : g.frame.mode = .run \/ g.frame.mode = .returning
 cmode : ∀ x ∈ g.callers, x.mode = .run
 nk : g.callers = [] \/ g.frame.kind = .normal
theorem no_call {fr fr' : Frame} (h : FrR P F Gl R fr fr') : ∀ d b r s k, fr.todo ≠ .call d b r s :: k := by
 intro d b r s k e
 have := h.items _ (by rw [e]; exact List.mem_cons_self ..)
 cases this
section
variable {fr : Frame} {cs : List Frame} {s : Sem Next} {w w1 : World} {es0 : Array Event}
theorem apply_value {v : Value} (hk : fr.kind ≠ .early) (hr : s.runT P w #[] = (.ok (.value v) w1, es0)) :
  stepG.apply P true fr cs none s w = .go { frame := fr.finish v, callers := cs, status := .running, dying := none } w1 (seen P fr.fn es0) := by
 have hke : (fr.kind == CallKind.early) = false := by simpa using hk
 unfold stepG.apply
 simp only [hr, hke, if_true, Bool.false_eq_true, if_false, GStep.after, Array.append_empty]
theorem apply_skip (hk : fr.kind ≠ .early) (hr : s.runT P w #[] = (.ok .skip w1, es0)) :
  stepG.apply P true fr cs none s w = .go { frame := fr.finish undef, callers := cs, status := .running, dying := none } w1 (seen P fr.fn es0) := by
 have hke : (fr.kind == CallKind.early) = false := by simpa using hk
 unfold stepG.apply
 simp only [hr, hke, if_true, Bool.false_eq_true, if_false, GStep.after, Array.append_empty]
theorem apply_enter {f : FuncId} {a : Array Value} (hk : fr.kind ≠ .early) (hnc : ∀ d b r s k, fr.todo ≠ .call d b r s :: k) (hr : s.runT P w #[] = (.ok (.enter f a) w1, es0)) :
  stepG.apply P true fr cs none s w = .go { frame := Frame.enter P f a .normal, callers := fr :: cs, status := .running, dying := none } w1 (seen P fr.fn es0) := by
 have hke : (fr.kind == CallKind.early) = false := by simpa using hk
 unfold stepG.apply
 simp only [hr, hke, if_true, Bool.false_eq_true, if_false, GStep.after, Array.append_empty]
 split
 ·rename_i heq; exact absurd heq (hnc _ _ _ _ _)
 ·rfl
end
theorem sim_apply (G : Good P) (hF : FC P F Gl) {fr fr' : Frame} {cs cs' : List Frame} (hf : FrR P F Gl R fr fr') (hm : fr.mode = .run) (hc : FrL P F Gl tl R cs cs') (hcm : ∀ x ∈ cs, x.mode = .run) (hnk : cs = [] \/ fr.kind = .normal) {s s' : Sem Next} (hs : Sim P F (fun R n n' => NextR F R n n') R s s')
  (hcalm : Calm P NextOk s) {w u : World} (hw : WR P F R w u) (hst : Started w) {g1 : Goroutine} {w1 : World} {es : Array Event} (h : stepG.apply P true fr cs none s w = .go g1 w1 es) (hnd : ¬ Doomed P g1) :
  ∃ R2 g1' u1 es', R.le R2 /\ stepG.apply P true fr' cs' none s' u = .go g1' u1 es' /\ GoK P F Gl tl R2 g1 g1' /\ WR P F R2 w1 u1 /\ Fr R R2 u u1 /\ ∀ e ∈ es', EvR R2 e := by
 have hke : (fr.kind == CallKind.early) = false := by simpa using hf.kind
 have hk' : fr'.kind ≠ .early := by rw [hf.kind']; exact hf.kind
 have hnc' : ∀ d b r s k, fr'.todo ≠ .call d b r s :: k := by rw [hf.todo]; exact no_call hf
 cases hr : s.runT P w #[] with
 | mk r es0 =>
  have hall : ∀ x ∈ fr :: cs, x.defers = [] /\ ∃ fn, P.funcs[x.fn]? = some fn := fun x hx => (FrL.cons hf hnk hc).all hF x hx
  cases r with
  | ok a w2 =>
   obtain ⟨R2, a', u1, us1, l2, e2, hw2, ha, hfr, hev⟩ := hs R (.refl R) w u hw #[] a w2 es0 hr #[]
   have hev' : ∀ x ∈ seen P fr'.fn us1, EvR R2 x := fun x hx => ((hev x (mem_seen hx)).resolve_left (by simp))
   cases ha with
   | value hv =>
    rw [apply_value hf.kind hr, GStep.go.injEq] at h
    obtain ⟨rfl, rfl, _⟩ := h
    exact ⟨R2, _, u1, _, l2, apply_value hk' e2, ⟨finish_FrR (hf.mono l2) hv, hc.mono l2, rfl, rfl, rfl, rfl, by left; rw [finish_mode]; exact hm, hcm, by rw [finish_kind]; exact hnk⟩, hw2, hfr, hev'⟩
   | skip =>
    rw [apply_skip hf.kind hr, GStep.go.injEq] at h
    obtain ⟨rfl, rfl, _⟩ := h
    exact ⟨R2, _, u1, _, l2, apply_skip hk' e2, ⟨finish_FrR (hf.mono l2) vr_undef, hc.mono l2, rfl, rfl, rfl, rfl, by left; rw [finish_mode]; exact hm, hcm, by rw [finish_kind]; exact hnk⟩, hw2, hfr, hev'⟩
   | enter f hff hargs =>
    rw [apply_enter hf.kind (no_call hf) hr, GStep.go.injEq] at h
    obtain ⟨rfl, rfl, _⟩ := h
    exact ⟨R2, _, u1, _, l2, apply_enter hk' hnc' e2, ⟨enter_FrR hF hff hargs, .cons (hf.mono l2) hnk (hc.mono l2), rfl, rfl, rfl, rfl, .inl rfl, fun x hx => by
     rcases List.mem_cons.1 hx with rfl | hx
     ·exact hm
     ·exact hcm x hx, .inr rfl⟩, hw2, hfr, hev'⟩
  | halt x w2 =>
   exfalso
   unfold stepG.apply at h
   simp only [if_true, hke, Bool.false_eq_true, if_false, hr] at h
   obtain ⟨k, r, h1, h2, _⟩ := calm_run s w hcalm hst
   obtain ⟨es', h3, _⟩ := h1 w.tape w.drawn noJ #[] noJ_ok (fun j _ => rfl) (.inl rfl)
   rw [tp_self, hr] at h3
   have hx : okH x := by
    cases r with
    | ok a w3 => simp [Result.tp] at h3
    | halt y w3 =>
     simp only [Result.tp, Prod.mk.injEq, Result.halt.injEq] at h3
     rw [h3.1.1]; exact h2.1
   cases x with
   | panic v =>
    obtain ⟨_, e3⟩ := after_go h
    simp only [GStep.go.injEq] at e3
    obtain ⟨rfl, _, _⟩ := e3
    exact hnd (doomed_raise hall)
   | stuck t =>
    obtain ⟨_, e3⟩ := after_go h
    cases e3
   | unsupported t =>
    obtain ⟨_, e3⟩ := after_go h
    cases t with
    | initOrder n =>
     simp only [early, G.ahead, G.noStep, Bool.not_true, Bool.false_eq_true, if_false] at e3
     cases e3
    | _ => cases e3
   | _ => exact hx
where
 finish_kind (fr : Frame) (v : Value) : (fr.finish v).kind = fr.kind := by
  unfold Frame.finish
  split <;> rfl
 finish_mode (fr : Frame) (v : Value) : (fr.finish v).mode = fr.mode := by
  unfold Frame.finish
  split <;> rfl
end
end
section
open Go.Conc (mem_seen)
section
variable {P : Program} {F : FuncId -> Bool} {Gl : Nat -> Bool} {tl : List Frame} {R : Rl}
theorem eval_ER {fr fr' : Frame} (h : VRs F R fr.tmps fr'.tmps) (hG : ∀ x, Gl x = true -> R.rel x x) : ER F Gl R fr.eval fr'.eval := by
 intro x hx
 cases x with
 | tmp t => exact h.getD t
 | const v => exact vr_const hx
 | global g => exact .pointer (.mk 0 none (hG g hx))
 | func f => exact .func f hx rfl (fun i v v' e => by simp at e) rfl (fun i v v' e => by simp at e)
theorem exitTo_sub {id : Nat} : ∀ {k k' : List Item}, exitTo id k = some k' -> ∀ it ∈ k', it ∈ k
 | [], _, h => by cases h
 | x :: k, k', h => by
  have go : exitTo id k = some k' -> ∀ it ∈ k', it ∈ x :: k := fun e it hit => List.mem_cons_of_mem _ (exitTo_sub e it hit)
  cases x with
  | inBlock b =>
   simp only [exitTo] at h
   split at h
   ·cases h; exact fun it hit => List.mem_cons_of_mem _ hit
   ·exact go h
  | _ => exact go h
theorem yielded_eq {ops : Array Oper} {a a' : Array Value} (h : VRs F R a a') : yielded ops a = yielded ops a' := by
 funext j
 unfold yielded
 cases hd : (ops[j]?).bind (·.dst) with
 | none => rfl
 | some d =>
  simp only [Option.bind_some]
  cases e : a[d]? with
  | none =>
   have : a'[d]? = none := by
    rw [Array.getElem?_eq_none_iff] at e ⊢
    rw [<- h.size]; exact e
   rw [this]
  | some v =>
   obtain ⟨v', e', hv⟩ := h.hit e
   rw [e']
   cases hv with
   | poison hs => cases v' <;> first | rfl | exact hs.elim
   | _ => rfl
theorem not_own {fr : Frame} {cs : List Frame} {o : Oper} (h : (match o.op with | .send .. => true | _ => false) = true) {w : World} {g1 : Goroutine} {w1 : World} {es : Array Event} :
  stepG.apply P true fr cs none (execOp fr.eval o) w ≠ .go g1 w1 es := by
 intro hs
 obtain ⟨dst, op, ty, pos, after, guard⟩ := o
 dsimp only at h
 split at h
 ·unfold stepG.apply at hs
  obtain ⟨_, e⟩ := after_go hs
  cases e
 ·cases h
theorem todo_FrR {fr fr' : Frame} (h : FrR P F Gl R fr fr') {todo : List Item} (ht : ∀ it ∈ todo, itemC P F Gl it = true) : FrR P F Gl R { fr with todo } { fr' with todo } :=
 ⟨h.fn, h.known, rfl, ht, h.defers, h.defers', h.mode, h.kind, h.kind', h.round, h.round', h.tmps⟩
theorem mode_FrR {fr fr' : Frame} (h : FrR P F Gl R fr fr') (m : FrameMode) : FrR P F Gl R { fr with mode := m } { fr' with mode := m } :=
 ⟨h.fn, h.known, h.todo, h.items, h.defers, h.defers', rfl, h.kind, h.kind', h.round, h.round', h.tmps⟩
abbrev SimStep (P : Program) (F : FuncId -> Bool) (Gl : Nat -> Bool) (tl : List Frame) (R : Rl) (u : World) (s' : GStep) (g1 : Goroutine) (w1 : World) : Prop :=
 ∃ R2 g1' u1 es', R.le R2 /\ s' = .go g1' u1 es' /\ GoK P F Gl tl R2 g1 g1' /\ WR P F R2 w1 u1 /\ Fr R R2 u u1 /\ ∀ e ∈ es', EvR R2 e
section
variable {mn : Bool} {fr fr' : Frame} {cs cs' : List Frame} {w u w1 : World} {g1 : Goroutine} {es : Array Event}
theorem still_go (hc : FrL P F Gl tl R cs cs') (hcm : ∀ x ∈ cs, x.mode = .run) (hw : WR P F R w u) {fr1 fr1' : Frame} (hnk : cs = [] \/ fr1.kind = .normal) (h1 : FrR P F Gl R fr1 fr1') (hm : fr1.mode = .run \/ fr1.mode = .returning)
  (h : GStep.go { frame := fr1, callers := cs, status := .running, dying := none } w #[] = .go g1 w1 es) :
  SimStep P F Gl tl R u (.go { frame := fr1', callers := cs', status := .running, dying := none } u #[]) g1 w1 := by
 rw [GStep.go.injEq] at h
 obtain ⟨rfl, rfl, _⟩ := h
 exact ⟨R, _, u, #[], .refl R, rfl, ⟨h1, hc, rfl, rfl, rfl, rfl, hm, hcm, hnk⟩, hw, .refl R u, fun e he => by simp at he⟩
theorem sim_oper (G : Good P) (hF : FC P F Gl) (hG : ∀ x, Gl x = true -> R.rel x x) (hf : FrR P F Gl R fr fr') (hm : fr.mode = .run) (hc : FrL P F Gl tl R cs cs') (hcm : ∀ x ∈ cs, x.mode = .run) (hnk : cs = [] \/ fr.kind = .normal) (hw : WR P F R w u) (hst : Started w)
  (hok : ∀ o, fr.oper? = some o -> opOk true o = true) (h : stepG.oper P true fr cs none w = .go g1 w1 es) (hnd : ¬ Doomed P g1) :
  SimStep P F Gl tl R u (stepG.oper P true fr' cs' none u) g1 w1 := by
 have ho' : fr'.oper? = fr.oper? := by unfold Frame.oper?; rw [hf.todo]
 unfold stepG.oper at h ⊢
 rw [ho']
 cases ho : fr.oper? with
 | none => rw [ho] at h; cases h
 | some o =>
  rw [ho] at h
  simp only [hf.round, hf.round'] at h ⊢
  have hoc : opC P F Gl o = true := by
   unfold Frame.oper? at ho
   split at ho
   ·rename_i ops i rest k heq
    have := hf.items _ (by rw [heq]; exact List.mem_cons_self ..)
    simp only [itemC, Array.all_eq_true_iff_forall_mem] at this
    exact this o (Array.mem_of_getElem? ho)
   ·cases ho
  unfold opC at hoc
  rcases Bool.or_eq_true _ _ ▸ hoc with h1 | h1
  ·exact sim_apply G hF hf hm hc hcm hnk (sim_execOp hF.ok h1 (eval_ER hf.tmps hG)) (c_execOp G.funcs _ (fun _ => rfl) o (hok o ho)) hw hst h hnd
  ·exact absurd h (not_own h1)
theorem sim_exec (G : Good P) (hF : FC P F Gl) (hG : ∀ x, Gl x = true -> R.rel x x) (hf : FrR P F Gl R fr fr') (hfo : FrameOk fr) (hm : fr.mode = .run) (hc : FrL P F Gl tl R cs cs') (hcm : ∀ x ∈ cs, x.mode = .run) (hnk : cs = [] \/ fr.kind = .normal) (hw : WR P F R w u) (hst : Started w)
    (h : stepG.exec P true true fr cs none w = .go g1 w1 es) (hnd : ¬ Doomed P g1) :
    SimStep P F Gl tl R u (stepG.exec P mn true fr' cs' none u) g1 w1 := by
  have hop : ∀ o, fr.oper? = some o -> opOk true o = true := by
    intro o ho
    unfold Frame.oper? at ho
    split at ho
    · rename_i ops i rest k heq
      have := hfo.items _ (by rw [heq]; exact List.mem_cons_self ..)
      simp only [ItemOk, hf.round, Option.isNone_none, Array.all_eq_true_iff_forall_mem] at this
      exact this o (Array.mem_of_getElem? ho)
    · cases ho
  have oper := sim_oper G hF hG hf hm hc hcm hnk hw hst hop (g1 := g1) (w1 := w1) (es := es)
  obtain ⟨fn, tmps, todo, defers, mode, kind, round⟩ := fr
  obtain ⟨fn', tmps', todo', defers', mode', kind', round'⟩ := fr'
  obtain ⟨q1, q2, q3, q4, q5, q6, q7, q8, q9, q10, q11, q12⟩ := id hf
  simp only at q1 q2 q3 q4 q5 q6 q7 q8 q9 q10 q11 q12 hm
  subst q1 q3 q5 q6 q7 q9 q10 q11
  have tail : ∀ it k, todo' = it :: k -> ∀ x ∈ k, itemC P F Gl x = true := fun it k e x hx => hf.items x (by rw [e]; exact List.mem_cons_of_mem _ hx)
  have head : ∀ it k, todo' = it :: k -> itemC P F Gl it = true := fun it k e => hf.items it (by rw [e]; exact List.mem_cons_self ..)
  have to : ∀ todo, (∀ it ∈ todo, itemC P F Gl it = true) -> GStep.go { frame := { fn := fn', tmps, todo, defers := [], mode := mode', kind := kind' }, callers := cs, status := .running, dying := none } w #[] = .go g1 w1 es ->
      SimStep P F Gl tl R u (.go { frame := { fn := fn', tmps := tmps', todo, defers := [], mode := mode', kind := kind' }, callers := cs', status := .running, dying := none } u #[]) g1 w1 := fun todo ht e => still_go hc hcm hw (by exact hnk) (todo_FrR hf ht) (.inl hm) e
  have ret : GStep.go { frame := { fn := fn', tmps, todo := todo', defers := [], mode := .returning, kind := kind' }, callers := cs, status := .running, dying := none } w #[] = .go g1 w1 es ->
      SimStep P F Gl tl R u (.go { frame := { fn := fn', tmps := tmps', todo := todo', defers := [], mode := .returning, kind := kind' }, callers := cs', status := .running, dying := none } u #[]) g1 w1 := fun e => still_go hc hcm hw (by exact hnk) (mode_FrR hf .returning) (.inr rfl) e
  have cons2 : ∀ {x : Item} {k : List Item}, itemC P F Gl x = true -> (∀ y ∈ k, itemC P F Gl y = true) -> ∀ y ∈ x :: k, itemC P F Gl y = true := fun hx hk y hy => by
    rcases List.mem_cons.1 hy with rfl | hy
    · exact hx
    · exact hk y hy
  unfold stepG.exec at h ⊢
  simp only at h ⊢
  cases todo' with
  | nil => exact ret h
  | cons it k =>
    have hk := tail it k rfl
    have hh := head it k rfl
    cases it with
    | code c =>
      cases c with
      | ret => exact ret h
      | skip => exact to k hk h
      | label l => exact to k hk h
      | seq a b =>
        simp only [itemC, codeC, Bool.and_eq_true] at hh
        exact to _ (cons2 (x := .code a) hh.1 (cons2 (x := .code b) hh.2 hk)) h
      | cond c a b =>
        simp only [itemC, codeC, Bool.and_eq_true] at hh
        have hE := eval_ER hf.tmps hG c hh.1.1
        simp only at h ⊢
        generalize Frame.eval { fn := fn', tmps := tmps, todo := Item.code (Code.cond c a b) :: k, defers := [], mode := mode', kind := kind' } c = v at h hE
        generalize Frame.eval { fn := fn', tmps := tmps', todo := Item.code (Code.cond c a b) :: k, defers := [], mode := mode', kind := kind' } c = v' at hE ⊢
        cases hE with
        | bool t =>
          simp only at h ⊢
          refine to _ (cons2 (x := .code (if t then a else b)) ?_ hk) h
          cases t
          · exact hh.2
          · exact hh.1.2
        | _ => cases h
      | block id c => exact to _ (cons2 (x := .code c) hh (cons2 (x := .inBlock id) rfl hk)) h
      | loop c => exact to _ (cons2 (x := .code c) hh (cons2 (x := .inLoop c) hh hk)) h
      | scope c => exact to _ (cons2 (x := .code c) hh (cons2 (x := .inScope c) hh hk)) h
      | exit id =>
        simp only at h ⊢
        cases he : exitTo id k with
        | none => rw [he] at h; cases h
        | some k' =>
          rw [he] at h
          exact to k' (fun it hit => hk it (exitTo_sub he it hit)) h
      | region id ops draw =>
        simp only at h ⊢
        cases draw with
        | false =>
          simp only [Bool.not_false, if_true] at h ⊢
          exact to _ (cons2 (x := .inRegion ops (List.range ops.size)) hh hk) h
        | true =>
          simp only [Bool.not_true, Bool.false_eq_true, if_false] at h ⊢
          have e1 : (choose (.order fn' id)).run P w = .ok (w.tape w.drawn (.order fn' id)) { w with drawn := w.drawn + 1 } := rfl
          have e2 : (choose (.order fn' id)).run P u = .ok (u.tape u.drawn (.order fn' id)) { u with drawn := u.drawn + 1 } := rfl
          rw [e1] at h
          rw [e2]
          have hw' : WR P F R { w with drawn := w.drawn + 1 } { u with drawn := u.drawn + 1 } := ⟨hw.dom, hw.fn, hw.inj, hw.objs, hw.glob, hw.tape, by simp only [hw.drawn], hw.bigW, hw.bigU⟩
          have eq : w.tape w.drawn (.order fn' id) = u.tape u.drawn (.order fn' id) := by rw [hw.tape, hw.drawn]
          simp only at h ⊢
          rw [eq, GStep.go.injEq] at h
          obtain ⟨rfl, rfl, _⟩ := h
          exact ⟨R, _, _, _, .refl R, rfl, ⟨todo_FrR hf (cons2 (x := .inRegion ops _) hh hk), hc, rfl, rfl, rfl, rfl, .inl hm, hcm, hnk⟩, hw', ⟨Nat.le_refl _, fun _ _ _ => rfl, fun b' => ⟨.inl, fun h => h.elim (fun y => y) fun x => absurd x.2 (Nat.not_lt.2 x.1)⟩, fun _ _ h => .inl h, ⟨rfl, rfl, rfl⟩, fun _ _ h => h⟩, fun e he => by simp at he⟩
      | _ => cases hh
    | inRegion ops l =>
      cases l with
      | nil => exact to k hk h
      | cons i rest =>
        simp only at h ⊢
        rw [<- yielded_eq (ops := ops) hf.tmps]
        split
        · rename_i hwant
          rw [if_pos hwant] at h
          exact oper h hnd
        · rename_i hwant
          rw [if_neg hwant] at h
          have hff := finish_FrR hf (v := undef) (v' := undef) vr_undef
          exact still_go hc hcm hw (by rw [sim_apply.finish_kind]; exact hnk) hff (.inl (by rw [sim_apply.finish_mode]; exact hm)) h
    | inBlock b => exact to k hk h
    | inLoop c => exact to _ (cons2 (x := .code c) hh (cons2 (x := .inLoop c) hh hk)) h
    | inScope c => exact to k hk h
    | _ => cases hh
theorem sim_unwind (hF : FC P F Gl) (hf : FrR P F Gl R fr fr') (hm : fr.mode = .returning) (hc : FrL P F Gl tl R cs cs') (hcm : ∀ x ∈ cs, x.mode = .run) (hnk : cs = [] \/ fr.kind = .normal) (hw : WR P F R w u)
  (h : unwind P true fr cs none w = .go g1 w1 es) : SimStep P F Gl tl R u (unwind P mn fr' cs' none u) g1 w1 := by
 obtain ⟨fn, b, hfn, _, _, _, hin⟩ := hF.body _ hf.known
 have hm' : fr'.mode = .returning := hf.mode.trans hm
 have hfn' : P.funcs[fr'.fn]? = some fn := by rw [hf.fn]; exact hfn
 unfold unwind at h ⊢
 rw [hf.defers, hm] at h
 rw [hf.defers', hm']
 simp only [hfn] at h
 simp only [hfn']
 cases hr : (results fn fr.tmps).runT P w #[] with
 | mk r es0 =>
  rw [hr] at h
  cases r with
  | halt x w2 =>
   obtain ⟨_, e⟩ := after_go h
   cases x <;> cases e
  | ok v w2 =>
   obtain ⟨R2, v', u1, us1, l2, e2, hw2, hv, hfr, hev⟩ := sim_results fn hf.tmps R (.refl R) w u hw #[] v w2 es0 hr #[]
   rw [e2]
   simp only at h ⊢
   have hev' : ∀ x ∈ seen P fr'.fn us1, EvR R2 x := fun x hx => ((hev x (mem_seen hx)).resolve_left (by simp))
   cases hc with
   | nil =>
    obtain ⟨_, e⟩ := after_go h
    simp only [doReturn] at e
    split at e
    ·cases ‹(none : Option Dying) = some _›
    ·cases e
    ·rw [hin] at e
     simp only [Bool.not_true, Bool.false_eq_true, if_false] at e
     cases e
   | @cons c c' l l' hcc hck hll =>
    obtain ⟨_, e⟩ := after_go h
    have hkn : fr.kind = .normal := hnk.resolve_left (by simp)
    have hkn' : fr'.kind = .normal := hf.kind'.trans hkn
    simp only [doReturn, hkn] at e
    rw [GStep.go.injEq] at e
    obtain ⟨rfl, rfl, _⟩ := e
    refine ⟨R2, { frame := c'.finish v', callers := l', status := .running, dying := none }, u1, seen P fr'.fn us1, l2, ?_, ⟨finish_FrR (hcc.mono l2) hv, hll.mono l2, rfl, rfl, rfl, rfl, .inl ?_, fun x hx => hcm x (List.mem_cons_of_mem _ hx), by rw [sim_apply.finish_kind]; exact hck⟩, hw2, hfr, hev'⟩
    ·simp only [doReturn, hkn', GStep.after, Array.append_empty]
    ·rw [sim_apply.finish_mode]; exact hcm c (List.mem_cons_self ..)
end
theorem sim_stepG (G : Good P) (hF : FC P F Gl) (hG : ∀ x, Gl x = true -> R.rel x x) {mn : Bool} {g g' g1 : Goroutine} {w u w1 : World} {es : Array Event} (hg : GoK P F Gl tl R g g') (hgo : GoodG g) (hw : WR P F R w u) (hst : Started w)
  (h : stepG P true g w = .go g1 w1 es) (hnd : ¬ Doomed P g1) : SimStep P F Gl tl R u (stepG P mn g' u) g1 w1 := by
 obtain ⟨fr, cs, st, dy, off⟩ := g
 obtain ⟨fr', cs', st', dy', off'⟩ := g'
 obtain ⟨hf, hc, _, _, hd, hd', hm, hcm, hnk⟩ := hg
 simp only at hf hc hd hd' hm hcm hnk
 subst hd hd'
 unfold stepG at h ⊢
 rcases hm with hm | hm
 ·have hm' := hf.mode.trans hm
  simp only [hm] at h
  simp only [hm']
  exact sim_exec G hF hG hf hgo.frame hm hc hcm hnk hw hst h hnd
 ·have hm' := hf.mode.trans hm
  simp only [hm] at h
  simp only [hm']
  exact sim_unwind hF hf hm hc hcm hnk hw h
end
end
end Go.Tp
namespace Go.Tp
open Go.Conc
structure Hold where
 mine : Nat -> Prop
 sh : Nat -> Prop
structure Off (H : Hold) (u u' : World) : Prop where
 size : u.heap.size <= u'.heap.size
 keep : ∀ b, b < u.heap.size -> H.mine b \/ H.sh b -> u'.heap[b]? = u.heap[b]?
 same : u'.tape = u.tape /\ u'.os = u.os /\ u'.output = u.output
theorem Off.refl (H : Hold) (u : World) : Off H u u := ⟨Nat.le_refl _, fun _ _ _ => rfl, rfl, rfl, rfl⟩
theorem Off.trans {H : Hold} {u u' u'' : World} (h : Off H u u') (h' : Off H u' u'') : Off H u u'' :=
 ⟨Nat.le_trans h.size h'.size, fun b hb hm => (h'.keep b (Nat.lt_of_lt_of_le hb h.size) hm).trans (h.keep b hb hm), h'.same.1.trans h.same.1, h'.same.2.1.trans h.same.2.1, h'.same.2.2.trans h.same.2.2⟩
theorem Off.at (H : Hold) (u : World) (d : Nat) : Off H u { u with drawn := d } := ⟨Nat.le_refl _, fun _ _ _ => rfl, rfl, rfl, rfl⟩
structure Does (H H' : Hold) (u u' : World) : Prop where
 size : u.heap.size <= u'.heap.size
 keep : ∀ b, b < u.heap.size -> ¬ H.mine b -> u'.heap[b]? = u.heap[b]?
 mine : ∀ b, H'.mine b ↔ H.mine b \/ (u.heap.size <= b /\ b < u'.heap.size)
 sh : H'.sh = H.sh
 same : u'.tape = u.tape /\ u'.os = u.os /\ u'.output = u.output
inductive EvO (H : Hold) : Event -> Prop
 | read {a : Addr} : H.mine a.block \/ H.sh a.block -> EvO H ⟨.cell a, false, false⟩
 | write {a : Addr} : H.mine a.block -> EvO H ⟨.cell a, true, false⟩
 | obj {r : Nat} : H.mine r \/ H.sh r -> EvO H ⟨.obj r, false, false⟩
 | noRoom (x y : Bool) : EvO H ⟨.mark .noRoom, x, y⟩
def EdgeM (P : Program) (mn : Bool) (H : Hold) (g : Goroutine) (u : World) (x : Hold × Goroutine × World) : Prop :=
 ∃ es, stepG P mn g u = .go x.2.1 x.2.2 es /\ Does H x.1 u x.2.2 /\ ∀ e ∈ es, EvO x.1 e
inductive RunM (P : Program) (mn : Bool) (Stop : Hold -> Goroutine -> World -> Prop) : Hold × Goroutine × World -> Prop
 | stop {H g u} : g.status = .running -> (∀ u', Off H u u' -> Stop H g u') -> RunM P mn Stop (H, g, u)
 | step {H g u} (next : World -> Hold × Goroutine × World) : g.status = .running -> (∀ u', Off H u u' -> RunM P mn Stop (next u')) -> (∀ u', Off H u u' -> EdgeM P mn H g u' (next u')) -> RunM P mn Stop (H, g, u)
theorem RunM.step' {P : Program} {mn : Bool} {Stop : Hold -> Goroutine -> World -> Prop} {H : Hold} {g : Goroutine} {u : World} (hst : g.status = .running)
  (h : ∀ u', Off H u u' -> ∃ x, RunM P mn Stop x /\ EdgeM P mn H g u' x) : RunM P mn Stop (H, g, u) := by
 classical
 have h' : ∀ u', ∃ x, Off H u u' -> RunM P mn Stop x /\ EdgeM P mn H g u' x := fun u' => by
  by_cases ho : Off H u u'
  ·obtain ⟨x, hx⟩ := h u' ho
   exact ⟨x, fun _ => hx⟩
  ·exact ⟨(H, g, u), fun h => absurd h ho⟩
 exact .step (fun u' => Classical.choose (h' u')) hst (fun u' ho => (Classical.choose_spec (h' u') ho).1) (fun u' ho => (Classical.choose_spec (h' u') ho).2)
theorem RunM.running {P : Program} {mn : Bool} {Stop : Hold -> Goroutine -> World -> Prop} {x : Hold × Goroutine × World} (h : RunM P mn Stop x) : x.2.1.status = .running := by
 cases h with
 | stop h _ => exact h
 | step _ h _ _ => exact h
theorem RunM.mono {P : Program} {mn : Bool} {Stop Stop' : Hold -> Goroutine -> World -> Prop} {x : Hold × Goroutine × World} (h : RunM P mn Stop x) (hS : ∀ H g u, Stop H g u -> Stop' H g u) : RunM P mn Stop' x := by
 induction h with
 | stop h1 h2 => exact .stop h1 fun u' ho => hS _ _ _ (h2 u' ho)
 | step next h1 _ h3 ih => exact .step next h1 ih h3
theorem RunM.bind {P : Program} {mn : Bool} {Stop Stop' : Hold -> Goroutine -> World -> Prop} {x : Hold × Goroutine × World} (h : RunM P mn Stop x) (hS : ∀ H g u, (∀ u', Off H u u' -> Stop H g u') -> RunM P mn Stop' (H, g, u)) : RunM P mn Stop' x := by
 induction h with
 | stop _ h2 => exact hS _ _ _ h2
 | step next h1 _ h3 ih => exact .step next h1 ih h3
theorem RunM.rely {P : Program} {mn : Bool} {Stop : Hold -> Goroutine -> World -> Prop} {H : Hold} {g : Goroutine} {u u' : World} (h : RunM P mn Stop (H, g, u)) (ho : Off H u u') : RunM P mn Stop (H, g, u') := by
 cases h with
 | stop h1 h2 => exact .stop h1 fun u'' ho' => h2 u'' (ho.trans ho')
 | step next h1 h2 h3 => exact .step next h1 (fun u'' ho' => h2 u'' (ho.trans ho')) (fun u'' ho' => h3 u'' (ho.trans ho'))
section
variable {P : Program} {F : FuncId -> Bool} {Gl : Nat -> Bool} {tl : List Frame}
theorem WR.off {R : Rl} {S : Nat -> Prop} {w u u' : World} (hw : WR P F R (w.tp u.tape u.drawn noJ) u) (hS : ∀ b b', R.rel b b' -> R.own b' \/ S b') (ho : Off ⟨R.own, S⟩ u u') : WR P F R (w.tp u'.tape u'.drawn noJ) u' := by
 have e : ∀ n : Nat, (w.tp u'.tape u'.drawn noJ).heap[n]? = (w.tp u.tape u.drawn noJ).heap[n]? := fun n => rfl
 refine ⟨fun b b' h => ⟨by have := (hw.dom b b' h).1; simpa [tp_size] using this, Nat.lt_of_lt_of_le (hw.dom b b' h).2 ho.size⟩, hw.fn, hw.inj, fun b b' o h hb => ?_, hw.glob, rfl, rfl, by have := hw.bigW; simpa [tp_size] using this, Nat.le_trans hw.bigU ho.size⟩
 rw [e] at hb
 obtain ⟨o', h1, h2⟩ := hw.objs b b' o h hb
 exact ⟨o', by rw [ho.keep b' (hw.dom b b' h).2 (hS b b' h)]; exact h1, h2⟩
theorem evO_of_evR {R : Rl} {S : Nat -> Prop} (hS : ∀ b b', R.rel b b' -> R.own b' \/ S b') {e : Event} (h : EvR R e) : EvO ⟨R.own, S⟩ e := by
 cases h with
 | @cell b a wr hr hw =>
  cases wr with
  | false => exact .read (hS _ _ hr)
  | true => exact .write (hw rfl)
 | obj hr => exact .obj (hS _ _ hr)
 | noRoom x y => exact .noRoom x y
def StopR (P : Program) (F : FuncId -> Bool) (Gl : Nat -> Bool) (tl : List Frame) (R0 : Rl) (S : Nat -> Prop) (Stop : Goroutine -> World -> Prop) (H : Hold) (g' : Goroutine) (u' : World) : Prop :=
 ∃ R g w, R0.le R /\ (∀ r r', R.ch r r' -> R0.ch r r') /\ Stop g w /\ GoK P F Gl tl R g g' /\ WR P F R (w.tp u'.tape u'.drawn noJ) u' /\ H = ⟨R.own, S⟩ /\ ∀ b b', R.rel b b' -> R.own b' \/ S b'
theorem runM_of_run (G : Good P) (hF : FC P F Gl) {mn : Bool} {Stop : Goroutine -> World -> Prop} (hS : ∀ g w, Stop g w -> ¬ Doomed P g) {S : Nat -> Prop} {R0 : Rl} {g : Goroutine} {w : World} (h : Run P Stop g w) :
  ∀ (R : Rl) (g' : Goroutine) (u : World), R0.le R -> (∀ r r', R.ch r r' -> R0.ch r r') -> GoK P F Gl tl R g g' -> GoodG g -> Started w -> (∀ x, Gl x = true -> R.rel x x) -> (∀ b b', R.rel b b' -> R.own b' \/ S b') -> WR P F R (w.tp u.tape u.drawn noJ) u ->
   RunM P mn (StopR P F Gl tl R0 S Stop) (⟨R.own, S⟩, g', u) := by
 induction h with
 | @stop g w hs =>
  intro R g' u hle hch hg _ _ _ hS' hw
  exact .stop hg.run' fun u' ho => ⟨R, g, w, hle, hch, hs, hg, hw.off hS' ho, rfl, hS'⟩
 | @step g w next hrun hr hE ih =>
  intro R g' u hle hch hg hgo hst hGl hS' hw
  refine RunM.step' hg.run' fun u' ho => ?_
  have hw' := hw.off hS' ho
  obtain ⟨es, _, hs⟩ := (hE u'.tape u'.drawn).step noJ noJ_ok
  have hnd : ¬ Doomed P (next u'.tape u'.drawn).2.1 := run_doomed G.noEnter hS (hr _ _)
  have hst' : Started (w.tp u'.tape u'.drawn noJ) := started_tp hst _ _
  obtain ⟨R2, g1', u1, es', l2, e1, hg1, hw1, hfr, hev⟩ := sim_stepG G hF hGl (mn := mn) hg hgo hw' hst' hs hnd
  have hform := (step_form G hgo hg.alive hst' hs).resolve_right hnd
  have hS2 : ∀ b b', R2.rel b b' -> R2.own b' \/ S b' := fun b b' hb => by
   rcases hfr.new b b' hb with h0 | h0
   ·rcases hS' b b' h0 with x | x
    ·exact .inl (l2.own _ x)
    ·exact .inr x
   ·exact .inl ((hfr.own b').2 (.inr ⟨h0, (hw1.dom b b' hb).2⟩))
  have etp : ((next u'.tape u'.drawn).2.2.tp u'.tape (u'.drawn + (next u'.tape u'.drawn).1) noJ) = ((next u'.tape u'.drawn).2.2.tp u1.tape u1.drawn noJ) := by
   have e1 := hw1.tape
   have e2 := hw1.drawn
   simp only [tp_tape, tp_drawn] at e1 e2
   rw [<- e1, <- e2]
  rw [etp] at hw1
  have hst2 : Started (next u'.tape u'.drawn).2.2 := by
   have := started_tp hform.2.2 (next u'.tape u'.drawn).2.2.tape (next u'.tape u'.drawn).2.2.drawn
   rw [tp_tp, tp_self] at this
   exact this
  refine ⟨(⟨R2.own, S⟩, g1', u1), ih _ _ R2 g1' u1 (hle.trans l2) (fun r r' h => hch _ _ (hfr.ch _ _ h)) hg1 hform.1 hst2 (fun x hx => l2.rel _ _ (hGl x hx)) hS2 hw1, es', e1, ⟨hfr.size, fun b hb hm => hfr.keep b hb hm, hfr.own, rfl, hfr.same⟩, fun e he => evO_of_evR hS2 (hev e he)⟩
end
end Go.Tp
