/- A part of the proof of RentMoreTrunks; no conditions of its own. -/
import Derived.Test.YtaikibfkggglgaaDoorX05
import Derived.Calls
import Derived.Lone
set_option maxRecDepth 100000
open Nat renaming le_refl → nR
open Array renaming getElem?_eq_some_iff → aS
open Array renaming getElem?_eq_getElem → aG
namespace Go.Tp
structure Edge (P : Program) (g : Goroutine) (w : World) (τ : Nat -> Question -> Nat) (d k : Nat) (g' : Goroutine) (w' : World) : Prop where
 room : w.heap.size <= w'.heap.size
 step : ∀ j, j.ok -> ∃ es, (∀ e ∈ es, okE w'.heap.size e) /\ stepG P true g (w.tp τ d j) = .go g' (w'.tp τ (d + k) j) es
inductive Run (P : Program) (Stop : Goroutine -> World -> Prop) : Goroutine -> World -> Prop
 | stop {g w} : Stop g w -> Run P Stop g w
 | step {g w} (next : (Nat -> Question -> Nat) -> Nat -> Nat × Goroutine × World) : g.status = .running -> (∀ τ d, Run P Stop (next τ d).2.1 (next τ d).2.2) -> (∀ τ d, Edge P g w τ d (next τ d).1 (next τ d).2.1 (next τ d).2.2) -> Run P Stop g w
theorem Run.step' {P : Program} {Stop : Goroutine -> World -> Prop} {g : Goroutine} {w : World} (hst : g.status = .running) (h : ∀ τ d, ∃ k g' w', Run P Stop g' w' /\ Edge P g w τ d k g' w') : Run P Stop g w := by
 have h' : ∀ τ d, ∃ x : Nat × Goroutine × World, Run P Stop x.2.1 x.2.2 /\ Edge P g w τ d x.1 x.2.1 x.2.2 := fun τ d => let ⟨k, g', w', a, b⟩ := h τ d; ⟨(k, g', w'), a, b⟩
 exact .step (fun τ d => Classical.choose (h' τ d)) hst (fun τ d => (Classical.choose_spec (h' τ d)).1) (fun τ d => (Classical.choose_spec (h' τ d)).2)
section
variable {P : Program}
theorem step_oneG_go {g g' : Goroutine} {w w' : World} {es : Array Event} (hst : g.status = .running) (hst' : g'.status = .running \/ g'.status = .blocked) (h : stepG P true g w = .go g' w' es) :
  step P (oneG g w) = .next (oneG g' w') := by
 rw [step, stepT, move_oneG hst]
 rcases hst' with h1 | h1 <;> simp [runT, oneG, Array.swapAt!, h, h1]
theorem step_oneG_ended {g : Goroutine} {w w' : World} {es : Array Event} {o : Outcome} (hst : g.status = .running) (h : stepG P true g w = .ended o w' es) :
  step P (oneG g w) = .ended o w' := by
 rw [step, stepT, move_oneG hst]
 simp [runT, oneG, Array.swapAt!, h]
theorem step_oneG_fin {g g' : Goroutine} {w w' : World} {es : Array Event} (hst : g.status = .running) (hst' : g'.status = .finished) (h : stepG P true g w = .go g' w' es) :
  step P (oneG g w) = .next (oneG g' w') := by
 rw [step, stepT, move_oneG hst]
 simp [runT, oneG, Array.swapAt!, h, hst']
theorem step_oneG_blocked {g : Goroutine} {w : World} (hst : g.status = .blocked) : ∃ o w', step P (oneG g w) = .ended o w' := by
 obtain ⟨fr, cs, st, dy, off⟩ := g
 simp only at hst
 subst hst
 obtain ⟨o', w', he, ho⟩ := endWith_ended w 2 (bytes "fatal error: all goroutines are asleep - deadlock!\n") (.fatal "all goroutines are asleep - deadlock!")
 refine ⟨o', w', ?_⟩
 simp [step, stepT, move, ask, askOn, oneG, runnable_eq, due, ahead, Goroutine.canRun, List.range_succ, pure]
 rw [he]
theorem ways_alone {w : World} (hs : Started w) {gs : Array Goroutine} (hg : ∀ r b, partners gs r b = []) (c : CommCase) : ways w gs c = [] := by
 unfold ways
 split
 ·rename_i r _
  split
  ·rename_i cap buf closed _ _ _ _ ho _
   have h : (Obj.chan cap buf closed _ _ _).started := hs _ _ ho
   obtain ⟨h1, h2, h3, _⟩ := h
   subst h1 h2 h3
   simp [hg]
  ·rename_i _ buf closed _ _ _ ho _
   have h : (Obj.chan _ buf closed _ _ _).started := hs _ _ ho
   obtain ⟨_, h2, h3, _⟩ := h
   subst h2 h3
   simp [hg]
  ·rfl
 ·rfl
theorem comm_alone {g : Goroutine} {w : World} {cases : Array CommCase} {shape : CommShape} (hs : Started w) :
  (∃ o w', (communicate P { timers := #[], alone := none, slice := none } #[{ (default : Goroutine) with status := .finished }] 0 g cases true shape w).1 = .ended o w') \/
  (communicate P { timers := #[], alone := none, slice := none } #[{ (default : Goroutine) with status := .finished }] 0 g cases true shape w).1 = .next (oneG { g with status := .blocked, offers := some (cases, shape) } w) := by
 have hp : ∀ r b, partners #[{ (default : Goroutine) with status := .finished }] r b = [] := fun r b => by simp [partners]
 unfold communicate
 simp only [ways_alone hs hp]
 split
 ·exact .inl ⟨_, _, rfl⟩
 ·rw [if_pos (by simp)]
  simp only [if_true, waitingAt, timerAhead]
  rw [if_neg (by
   simp only [Array.any_eq_true]
   rintro ⟨i, hi, h⟩
   split at h <;> simp at h)]
  exact .inr (by simp [oneG])
theorem size_runN {n : Nat} {m m' : Machine} (h : runN P n m = .next m') : m.gs.size <= m'.gs.size :=
 runNT_size P n m m' #[] _ (Prod.ext (by rw [runNT_fst, h]) rfl)
theorem dying_runN : ∀ (n : Nat) {g : Goroutine} {w : World} {m' : Machine}, g.dyingOn P -> runN P n (oneG g w) = .next m' -> ∃ g' w', m' = oneG g' w' /\ g'.dyingOn P
 | 0, g, w, m', h, e => by
  simp only [runN, Stepped.next.injEq] at e
  exact ⟨g, w, e.symm, h⟩
 | n + 1, g, w, m', h, e => by
  rcases step_dyingOn (w := w) h with ⟨g', w1, hs, h'⟩ | ⟨o, w1, hs, _⟩
  ·simp only [runN, hs] at e; exact dying_runN n h' e
  ·simp only [runN, hs] at e; cases e
theorem step_oneG_finished {g : Goroutine} {w : World} (hst : g.status = .finished) : ∃ o w', step P (oneG g w) = .ended o w' := by
 obtain ⟨fr, cs, st, dy, off⟩ := g
 simp only at hst
 subst hst
 obtain ⟨o', w', he, ho⟩ := endWith_ended w 2 (bytes "fatal error: no goroutines (main called runtime.Goexit) - deadlock!\n") (.fatal "no goroutines (main called runtime.Goexit) - deadlock!")
 refine ⟨o', w', ?_⟩
 simp [step, stepT, move, ask, askOn, oneG, runnable_eq, due, ahead, Goroutine.canRun, List.range_succ, pure]
 rw [he]
def StopM (Stop : Goroutine -> World -> Prop) (m : Machine) : Prop := ∃ g w, m = oneG g w /\ g.status = .running /\ g.dying = none /\ Stop g w
structure Fine (g : Goroutine) (w : World) : Prop where
 good : GoodG g
 alive : g.dying = none
 runs : g.status = .running
 started : Started w
def StopF (Stop : Goroutine -> World -> Prop) (g : Goroutine) (w : World) : Prop := Stop g w /\ Fine g w
theorem next_bad (G : Good P) {Stop : Goroutine -> World -> Prop} {g : Goroutine} {w : World} (hf : Fine g w) (bad : ¬ Run P (StopF Stop) g w) :
  ∃ (τ : Nat -> Question -> Nat) (d : Nat), ∀ (l : Nat) (τ' : Nat -> Question -> Nat), (∀ i, τ' (l + i) = τ (d + i)) ->
   (∃ n m', runN P (n + 1) (oneG g (w.tp τ' l noJ)) = .next m' /\ StopM Stop m') ->
   ∃ k g' w', Fine g' w' /\ ¬ Run P (StopF Stop) g' w' /\ ∀ τ'' : Nat -> Question -> Nat, (∀ i, i < k -> τ'' (l + i) = τ (d + i)) -> step P (oneG g (w.tp τ'' l noJ)) = .next (oneG g' (w'.tp τ'' (l + k) noJ)) := by
 have hex : ∃ (τ : Nat -> Question -> Nat) (d : Nat), ∀ k g' w', Run P (StopF Stop) g' w' -> ¬ Edge P g w τ d k g' w' := by
  refine Classical.byContradiction fun hc => bad (.step' hf.runs fun τ d => Classical.byContradiction fun h2 => hc ⟨τ, d, fun k g' w' hr he => h2 ⟨k, g', w', hr, he⟩⟩)
 obtain ⟨τ, d, hno⟩ := hex
 refine ⟨τ, d, fun l τ' hτ' ⟨n, m', hrun, hstop⟩ => ?_⟩
 obtain ⟨k, st, hF, hes, hok, hroom⟩ := tl_stepG G (main := true) hf.good hf.alive (started_tp hf.started τ d)
 have hat : ∀ τ'' : Nat -> Question -> Nat, (∀ i, i < k -> τ'' (l + i) = τ (d + i)) -> ∃ es, stepG P true g (w.tp τ'' l noJ) = GStep.after es (st.tp τ'' (l + k) noJ) := fun τ'' h => by
  obtain ⟨es, _, e⟩ := hF τ'' l noJ noJ_ok h (.inl rfl)
  rw [tp_tp] at e; exact ⟨es, e⟩
 obtain ⟨es, e⟩ := hat τ' fun i _ => hτ' i
 simp only [runN] at hrun
 obtain ⟨gx, wx, rfl, hx1, hx2, _⟩ := hstop
 cases st with
 | go g' w' es0 =>
  rcases hok with ⟨h1, h2, h3 | h3, h4⟩ | hdy
  ·refine ⟨k, g', w', ⟨h1, h2, h3, h4⟩, fun hr => hno k g' w' hr ⟨by rw [<- tp_size w τ d noJ]; exact hroom, fun j hj => ?_⟩, fun τ'' h => ?_⟩
   ·obtain ⟨es2, q1, q2⟩ := hF τ d j hj (fun i _ => rfl) (.inr rfl)
    rw [tp_tp] at q2
    exact ⟨es2 ++ es0, fun x hx => (Array.mem_append.1 hx).elim (q1 x) (hes x), q2⟩
   ·obtain ⟨es2, e2⟩ := hat τ'' h
    exact step_oneG_go hf.runs (.inl h3) e2
  ·exfalso
   rw [step_oneG_fin hf.runs h3 e] at hrun
   cases n with
   | zero =>
    simp only [runN, Stepped.next.injEq] at hrun
    have := congrArg (fun m => (m.gs[0]?).map (·.status)) hrun
    simp [oneG, hx1, h3] at this
   | succ n =>
    obtain ⟨o, w3, h6⟩ := step_oneG_finished (P := P) (g := g') (w := w'.tp τ' (l + k) noJ) h3
    simp only [runN, h6] at hrun
    cases hrun
  ·exfalso
   rw [step_oneG_go hf.runs hdy.1 e] at hrun
   obtain ⟨g2, w2, e2, ⟨_, dd, hd2, _⟩⟩ := dying_runN n hdy hrun
   have : gx = g2 := by have := congrArg (fun m => m.gs[0]?) e2; simpa [oneG] using this
   rw [this, hd2] at hx2; cases hx2
 | ended o w' es0 =>
  rw [step_oneG_ended hf.runs e] at hrun; cases hrun
 | comm g1 cases bl shape w1 es0 =>
  exfalso
  obtain ⟨_, _, h3, h4⟩ := hok
  subst h3
  have hst : ∀ s, step P (oneG g (w.tp τ' l noJ)) = s -> s = (communicate P { timers := #[], alone := none, slice := none } #[{ (default : Goroutine) with status := .finished }] 0 g1 cases true shape (w1.tp τ' (l + k) noJ)).1 := by
   intro s hs
   rw [<- hs, step, stepT, move_oneG hf.runs]
   simp [runT, oneG, Array.swapAt!, e, GStep.after, GStep.tp]
  rcases comm_alone (P := P) (g := g1) (cases := cases) (shape := shape) (started_tp h4 τ' (l + k)) with ⟨o, w2, h5⟩ | h5
  ·rw [hst _ rfl, h5] at hrun; cases hrun
  ·rw [hst _ rfl, h5] at hrun
   simp only at hrun
   cases n with
   | zero =>
    simp only [runN, Stepped.next.injEq] at hrun
    have := congrArg (fun m => (m.gs[0]?).map (·.status)) hrun
    simp [oneG, hx1] at this
   | succ n =>
    obtain ⟨o, w3, h6⟩ := step_oneG_blocked (P := P) (g := { g1 with status := .blocked, offers := some (cases, shape) }) (w := w1.tp τ' (l + k) noJ) rfl
    simp only [runN, h6] at hrun
    cases hrun
 | spawn g1 ch w1 es0 =>
  exfalso
  have h5 : step P (oneG g (w.tp τ' l noJ)) = .next { world := w1.tp τ' (l + k) noJ, gs := #[g1, ch], rest := { timers := #[], alone := none, slice := none } } := by
   rw [step, stepT, move_oneG hf.runs]
   simp [runT, oneG, Array.swapAt!, e, GStep.after, GStep.tp]
  rw [h5] at hrun
  have := size_runN hrun
  simp [oneG] at this
 | _ => exact hok.elim
structure PathOk (P : Program) (Stop : Goroutine -> World -> Prop) (g0 : Goroutine) (w0 : World) (n : Nat) (x : Goroutine × World × List (Question -> Nat)) : Prop where
 fine : Fine x.1 x.2.1
 bad : ¬ Run P (StopF Stop) x.1 x.2.1
 reach : ∀ τ : Nat -> Question -> Nat, (∀ i (h : i < x.2.2.length), τ i = x.2.2[i]) -> runN P n (oneG g0 (w0.tp τ 0 noJ)) = .next (oneG x.1 (x.2.1.tp τ x.2.2.length noJ))
 early : ∀ m, m <= n -> ∀ τ : Nat -> Question -> Nat, (∀ i (h : i < x.2.2.length), τ i = x.2.2[i]) -> ∀ m', runN P m (oneG g0 (w0.tp τ 0 noJ)) = .next m' -> ¬ StopM Stop m'
theorem path_next (G : Good P) {Stop : Goroutine -> World -> Prop} (hT : ∀ g w τ d, Stop g (w.tp τ d noJ) -> Stop g w) {g0 : Goroutine} {w0 : World}
    (H : ∀ τ, ∃ n m', runN P n (oneG g0 (w0.tp τ 0 noJ)) = .next m' /\ StopM Stop m') {n : Nat} {x : Goroutine × World × List (Question -> Nat)} (hx : PathOk P Stop g0 w0 n x) :
    ∃ y, PathOk P Stop g0 w0 (n + 1) y /\ x.2.2 <+: y.2.2 := by
  obtain ⟨g, w, L⟩ := x
  obtain ⟨τ, d, hnext⟩ := next_bad G hx.fine hx.bad
  simp only at hnext
  have hpre : ∀ i (h : i < L.length), (fun i => if h : i < L.length then L[i] else τ (d + (i - L.length)) : Nat -> Question -> Nat) i = L[i] := fun i h => by simp [h]
  obtain ⟨N, m', hN, hstop⟩ := H (fun i => if h : i < L.length then L[i] else τ (d + (i - L.length)))
  have hlt : n < N := Nat.lt_of_not_le fun hle => hx.early N hle _ hpre m' hN hstop
  obtain ⟨q, rfl⟩ : ∃ q, N = n + (q + 1) := ⟨N - n - 1, by omega⟩
  obtain ⟨k, g', w', hf', hb', hs'⟩ := hnext L.length (fun i => if h : i < L.length then L[i] else τ (d + (i - L.length))) (fun i => by simp [show ¬ (L.length + i < L.length) by omega]) ⟨q, m', by
    have := hx.reach _ hpre
    rw [runN_add, this] at hN
    exact hN, hstop⟩
  have hlen : (L ++ (List.range k).map fun i => τ (d + i)).length = L.length + k := by simp
  have hL : ∀ τ'' : Nat -> Question -> Nat, (∀ i (h : i < (L ++ (List.range k).map fun i => τ (d + i)).length), τ'' i = (L ++ (List.range k).map fun i => τ (d + i))[i]) ->
      (∀ i (h : i < L.length), τ'' i = L[i]) /\ ∀ i, i < k -> τ'' (L.length + i) = τ (d + i) := fun τ'' h => by
    refine ⟨fun i hi => ?_, fun i hi => ?_⟩
    · rw [h i (by rw [hlen]; omega)]; simp [hi]
    · rw [h (L.length + i) (by rw [hlen]; omega)]; simp
  have hr : ∀ τ'' : Nat -> Question -> Nat, (∀ i (h : i < (L ++ (List.range k).map fun i => τ (d + i)).length), τ'' i = (L ++ (List.range k).map fun i => τ (d + i))[i]) ->
      runN P (n + 1) (oneG g0 (w0.tp τ'' 0 noJ)) = .next (oneG g' (w'.tp τ'' (L ++ (List.range k).map fun i => τ (d + i)).length noJ)) := fun τ'' h => by
    obtain ⟨h1, h2⟩ := hL τ'' h
    rw [runN_add, hx.reach τ'' h1, hlen]
    simp only [runN, hs' τ'' h2]
  refine ⟨(g', w', L ++ (List.range k).map fun i => τ (d + i)), ⟨hf', hb', hr, fun m hm τ'' h m2 hm2 hst => ?_⟩, List.prefix_append _ _⟩
  by_cases hmn : m <= n
  · exact hx.early m hmn τ'' (hL τ'' h).1 m2 hm2 hst
  · obtain rfl : m = n + 1 := by omega
    rw [hr τ'' h] at hm2
    obtain ⟨gx, wx, e, _, _, hsx⟩ := hst
    simp only [Stepped.next.injEq] at hm2
    rw [e] at hm2
    have e1 : g' = gx := by have := congrArg (fun m => m.gs[0]?) hm2; simpa [oneG] using this
    have e2 : (w'.tp τ'' (L ++ (List.range k).map fun i => τ (d + i)).length noJ) = wx := by have := congrArg (fun m => m.world) hm2; simpa [oneG] using this
    rw [<- e1, <- e2] at hsx
    exact hb' (.stop ⟨hT _ _ _ _ hsx, hf'⟩)
theorem run_of_lone (G : Good P) {Stop : Goroutine -> World -> Prop} (hT : ∀ g w τ d, Stop g (w.tp τ d noJ) -> Stop g w) {g : Goroutine} {w : World} (hf : Fine g w)
  (H : ∀ τ, ∃ n m', runN P n (oneG g (w.tp τ 0 noJ)) = .next m' /\ StopM Stop m') : Run P (StopF Stop) g w := by
 classical
 refine Classical.byContradiction fun hbad => ?_
 have h0 : PathOk P Stop g w 0 (g, w, []) := by
  refine ⟨hf, hbad, fun τ _ => rfl, fun m hm τ _ m' hm' hst => ?_⟩
  obtain rfl : m = 0 := by omega
  simp only [runN, Stepped.next.injEq] at hm'
  obtain ⟨gx, wx, e, _, _, hsx⟩ := hst
  rw [e] at hm'
  have e1 : g = gx := by have := congrArg (fun m => m.gs[0]?) hm'; simpa [oneG] using this
  have e2 : w.tp τ 0 noJ = wx := by have := congrArg (fun m => m.world) hm'; simpa [oneG] using this
  rw [<- e1, <- e2] at hsx
  exact hbad (.stop ⟨hT _ _ _ _ hsx, hf⟩)
 have nxt : ∀ n (x : {x // PathOk P Stop g w n x}), ∃ y : {y // PathOk P Stop g w (n + 1) y}, x.1.2.2 <+: y.1.2.2 := fun n x => by
  obtain ⟨y, hy, hp⟩ := path_next G hT H x.2
  exact ⟨⟨y, hy⟩, hp⟩
 let seq : (n : Nat) -> {x // PathOk P Stop g w n x} := fun n => Nat.rec ⟨(g, w, []), h0⟩ (fun n x => Classical.choose (nxt n x)) n
 have hseq : ∀ n, (seq n).1.2.2 <+: (seq (n + 1)).1.2.2 := fun n => Classical.choose_spec (nxt n (seq n))
 have hmono : ∀ m k, (seq m).1.2.2 <+: (seq (m + k)).1.2.2 := fun m k => by
  induction k with
  | zero => exact List.prefix_refl _
  | succ k ih => exact ih.trans (hseq (m + k))
 have hagree : ∀ m n i (h1 : i < (seq m).1.2.2.length) (h2 : i < (seq n).1.2.2.length), (seq m).1.2.2[i] = (seq n).1.2.2[i] := fun m n i h1 h2 => by
  have e1 := (hmono m n).getElem h1
  have e2 := (hmono n m).getElem h2
  have key : ∀ a b, a = b -> ∀ (h1 : i < (seq a).1.2.2.length) (h2 : i < (seq b).1.2.2.length), (seq a).1.2.2[i] = (seq b).1.2.2[i] := by
   rintro a _ rfl _ _; rfl
  rw [e1, e2]
  exact key _ _ (Nat.add_comm m n) _ _
 let τ : Nat -> Question -> Nat := fun i => if h : ∃ m, i < (seq m).1.2.2.length then (seq (Classical.choose h)).1.2.2[i]'(Classical.choose_spec h) else fun _ => 0
 have hτ : ∀ n i (h : i < (seq n).1.2.2.length), τ i = (seq n).1.2.2[i] := fun n i h => by
  have hex : ∃ m, i < (seq m).1.2.2.length := ⟨n, h⟩
  show (if h : ∃ m, i < (seq m).1.2.2.length then (seq (Classical.choose h)).1.2.2[i]'(Classical.choose_spec h) else fun _ => 0) = _
  rw [dif_pos hex]
  exact hagree _ _ _ _ _
 obtain ⟨N, m', hN, hstop⟩ := H τ
 exact (seq N).2.early N (nR _) τ (hτ N) m' hN hstop
theorem run_of_calls (G : Good P) {f : FuncId} {args : Array Value} {c : Frame} {cs : List Frame} {w : World} {R : Value -> World -> Prop} (hc : FrameOk c) (hcs : ∀ x ∈ cs, FrameOk x) (hs : Started w)
  (hR : ∀ v w τ d, R v (w.tp τ d noJ) -> R v w) (h : ∀ τ, Calls P f args (w.tp τ 0 noJ) fun e w' => ∃ v, e = .returned v /\ R v w') :
  Run P (StopF fun g w' => ∃ v, g = { frame := c.finish v, callers := cs, status := .running, dying := none } /\ R v w') { frame := Frame.enter P f args .normal, callers := c :: cs, status := .running, dying := none } w := by
 refine run_of_lone G (fun g w τ d ⟨v, e, r⟩ => ⟨v, e, hR _ _ _ _ r⟩) ⟨⟨enter_ok G.bodies _ _ (by decide), fun x hx => ?_⟩, rfl, rfl, hs⟩ fun τ => ?_
 ·rcases List.mem_cons.1 hx with rfl | hx
  ·exact hc
  ·exact hcs x hx
 ·obtain ⟨e, w', fr, ⟨v, rfl, r⟩, ⟨n, hn⟩, _, hl⟩ := h τ (c :: cs)
  refine ⟨n + 1, lone (c.finish v) cs w', ?_, _, w', rfl, rfl, rfl, v, rfl, r⟩
  rw [runN_add]
  change runN P n (lone (Frame.enter P f args .normal) (c :: cs) (w.tp τ 0 noJ)) = _ at hn
  rw [show oneG { frame := Frame.enter P f args .normal, callers := c :: cs, status := .running, dying := none } (w.tp τ 0 noJ) = lone (Frame.enter P f args .normal) (c :: cs) (w.tp τ 0 noJ) from rfl, hn]
  simp only [runN, step_leave_returned hl]
end
end Go.Tp
namespace Go.Tp
open Go.Conc Go.ConcN
section
variable {P : Program}
abbrev NoShun : Loc -> Prop := fun _ => False
theorem evL_of_okE {N : Nat} {e : Event} (h : okE N e) : EvL NoShun N e := by
 obtain ⟨loc, wr, sy⟩ := e
 obtain ⟨h1, h2⟩ := h
 refine ⟨fun _ _ hs => hs.elim, ?_, ?_, ?_⟩
 ·rcases h1 with ⟨m, h1, hm⟩ | h1
  ·simp only at h1; subst h1; intro e; cases e; exact hm
  ·exact h1 _
 ·rcases h1 with ⟨m, h1, hm⟩ | h1
  ·simp only at h1; subst h1; intro e; cases e; exact hm
  ·exact h1 _
 ·cases loc with
  | mark m =>
   rcases h1 with ⟨m', h1, hm⟩ | h1
   ·simp only [Loc.mark.injEq] at h1
    subst h1
    cases m <;> first | exact trivial | exact hm.elim
   ·exact absurd rfl (h1 m)
  | obj r => cases wr <;> cases sy <;> exact h2
  | cell a => rw [show MemAct.ofEvent ⟨.cell a, wr, sy⟩ = .access ⟨.cell a, wr, sy⟩ from rfl]; exact h2
  | output => exact trivial
  | goroutines => exact trivial
theorem of_events {g : Nat} {fn : FuncId} {pos : String} {es : Array Event} {op : MemOp} (h : op ∈ MemOp.ofEvents g fn pos es) : op.g = g := by
 obtain ⟨e, _, rfl⟩ := Go.Conc.mem_ofEvents h; rfl
theorem run_beside {Stop : Goroutine -> World -> Prop} {T : Nat -> Question -> Nat} {j : Junk} (hj : j.ok) {g : Goroutine} {w : World} (h : Run P Stop g w) :
  ∀ (gs : Array Goroutine) (d : Nat) (sl : Option (Nat × Nat)) (t : Trace) (q : Nat -> Nat), gs[0]? = some g -> Leavers P t gs q -> Past NoShun w.heap.size t ->
   ∃ (N : Nat) (gs' : Array Goroutine) (g' : Goroutine) (w' : World) (d' : Nat) (sl' : Option (Nat × Nat)) (t' : Trace) (q' : Nat -> Nat),
    runNT P N (crowd gs (w.tp T d j) sl) t = (.next (crowd gs' (w'.tp T d' j) sl'), t') /\ gs'.size = gs.size /\ gs'[0]? = some g' /\ Stop g' w' /\ Leavers P t' gs' q' /\ Past NoShun w'.heap.size t' /\ w.heap.size <= w'.heap.size := by
 induction h with
 | stop hs => exact fun gs d sl t q h0 hL hP => ⟨0, gs, _, _, d, sl, t, q, rfl, rfl, h0, hs, hL, hP, nR _⟩
 | @step g w next hrun hr hE ih =>
  intro gs d sl t q h0 hL hP
  generalize hM : sumTo gs.size q = M
  induction M using Nat.strongRecOn generalizing gs d sl t q with
  | _ M ihM =>
  have haw : ∀ g ∈ gs, awake g := by
   intro x hx
   obtain ⟨i, hi, rfl⟩ := Array.mem_iff_getElem.1 hx
   rcases Nat.eq_zero_or_pos i with rfl | hpos
   ·have : gs[0] = g := by simpa [aG hi] using h0
    rw [this]; exact awake_of (.inl hrun)
   ·exact awake_of ((hL.old i _ hpos (aG hi)).status.elim .inl fun x => .inr (.inr x))
  obtain ⟨i, gi, d1, sl', hi, hg, hst⟩ := crowd_pick (P := P) (w := w.tp T d j) (sl := sl) haw ⟨0, g, h0, hrun⟩
  rcases Nat.eq_zero_or_pos i with rfl | hpos
  ·obtain rfl : gi = g := by rw [h0] at hi; exact (Option.some.inj hi).symm
   obtain ⟨es, hes, hgo⟩ := (hE T d1).step j hj
   generalize hn : next T d1 = nx at hgo hes
   have hroom := (hE T d1).room
   have ih' := ih T d1
   rw [hn] at hroom ih'
   obtain ⟨k, a', w'⟩ := nx
   have hrunT := runT_crowd_go (P := P) (sl := sl') (i := 0) hi (show stepG P (0 == 0) gi ((w.tp T d j).at d1) = .go a' (w'.tp T (d1 + k) j) es from hgo)
   have hsz : ((gs.map (woken P gi a' (w'.tp T (d1 + k) j))).setIfInBounds 0 a').size = gs.size := by simp
   have hlt : 0 < gs.size := (aS.1 h0).1
   obtain ⟨N, gs', a'', w'', d'', sl'', t', q', hr', hs', h0', hS, hL', hP', hroom'⟩ := ih' ((gs.map (woken P gi a' (w'.tp T (d1 + k) j))).setIfInBounds 0 a') (d1 + k) sl' (t ++ MemOp.ofEvents 0 gi.frame.fn gi.frame.place es) q (by simp [hlt])
    ⟨fun m x hm hx => by
     have hne : 0 ≠ m := by omega
     rw [Array.getElem?_setIfInBounds_ne hne, Array.getElem?_map] at hx
     obtain ⟨y, hy, rfl⟩ := Option.map_eq_some_iff.1 hx
     have hq := hL.old m y hm hy
     rw [woken_quitsD hq, Deaf_other t (by omega) _ (fun op hop => of_events hop)]
     exact hq, fun m hm => by
     rw [Deaf_other t (g' := 0) (by simp at hm; omega) _ (fun op hop => of_events hop)]
     exact hL.above m (by simpa using hm)⟩
    ((hP.mono hroom).own fun e he => evL_of_okE (hes e he))
   exact ⟨N + 1, gs', a'', w'', d'', sl'', t', q', by simp only [runNT, hst, hrunT]; exact hr', hs'.trans hsz, h0', hS, hL', hP', Nat.le_trans hroom hroom'⟩
  ·have hq := hL.old i gi hpos hi
   have hi0 : (i == 0) = false := by simp; omega
   have hlt : i < gs.size := (aS.1 hi).1
   cases hqi : q i with
   | zero => rw [hqi] at hq; rw [hq.1] at hg; cases hg
   | succ k =>
    rw [hqi] at hq
    rcases hq with ⟨hf, _⟩ | ⟨_, g', es, hm, hstp, hq'⟩
    ·rw [hf] at hg; cases hg
    have hrunT := runT_crowd_go (P := P) (sl := sl') (i := i) hi (by rw [hi0]; exact hstp ((w.tp T d j).at d1))
    have hsz : ((gs.map (woken P gi g' ((w.tp T d j).at d1))).setIfInBounds i g').size = gs.size := by simp
    have hsum : sumTo gs.size (upd q i k) + (k + 1) = sumTo gs.size q + k := by
     have := sumTo_upd q k id hlt
     simpa [hqi] using this
    obtain ⟨N, gs', a'', w'', d'', sl'', t', q', hr', hs', h0', hS, hL', hP', hroom'⟩ := ihM (sumTo gs.size (upd q i k)) (by omega) ((gs.map (woken P gi g' ((w.tp T d j).at d1))).setIfInBounds i g') d1 sl' (t ++ MemOp.ofEvents i gi.frame.fn gi.frame.place es) (upd q i k)
     (by
      have hne : i ≠ 0 := by omega
      rw [Array.getElem?_setIfInBounds_ne hne, Array.getElem?_map, h0]
      simp [woken_run hrun])
     ⟨fun m x hm hx => by
      by_cases hji : i = m
      ·subst hji
       rw [Array.getElem?_setIfInBounds_self_of_lt (by simpa using hlt)] at hx
       obtain rfl := Option.some.inj hx
       rw [upd_same, Deaf_own]
       exact hq'
      ·rw [Array.getElem?_setIfInBounds_ne hji, Array.getElem?_map] at hx
       obtain ⟨y, hy, rfl⟩ := Option.map_eq_some_iff.1 hx
       have hqj := hL.old m y hm hy
       rw [woken_quitsD hqj, upd_ne q k (Ne.symm hji), Deaf_other t hji _ (fun op hop => of_events hop)]
       exact hqj, fun m hm => by
      rw [Deaf_other t (g' := i) (by simp at hm; omega) _ (fun op hop => of_events hop)]
      exact hL.above m (by simpa using hm)⟩
     (hP.mute (by omega) hm) (by rw [hsz])
    exact ⟨N + 1, gs', a'', w'', d'', sl'', t', q', by simp only [runNT, hst, hrunT]; exact hr', hs'.trans hsz, h0', hS, hL', hP', hroom'⟩
end
end Go.Tp
namespace Go.Tp
structure Rl where
 rel : Nat -> Nat -> Prop
 ch : Nat -> Nat -> Prop
 own : Nat -> Prop
structure Rl.le (R R' : Rl) : Prop where
 rel : ∀ b b', R.rel b b' -> R'.rel b b'
 ch : ∀ b b', R.ch b b' -> R'.ch b b'
 own : ∀ b', R.own b' -> R'.own b'
theorem Rl.le.refl (R : Rl) : R.le R := ⟨fun _ _ h => h, fun _ _ h => h, fun _ h => h⟩
theorem Rl.le.trans {R R' R'' : Rl} (h : R.le R') (h' : R'.le R'') : R.le R'' := ⟨fun _ _ x => h'.rel _ _ (h.rel _ _ x), fun _ _ x => h'.ch _ _ (h.ch _ _ x), fun _ x => h'.own _ (h.own _ x)⟩
def _root_.Go.Value.single : Value -> Prop
 | .agg _ | .tuple _ | .bool _ => False
 | _ => True
inductive AR (R : Rl) : Addr -> Addr -> Prop
 | mk {b b' : Nat} (o : Nat) (s : Option Nat) : R.rel b b' -> AR R ⟨b, o, s⟩ ⟨b', o, s⟩
inductive VR (F : FuncId -> Bool) (R : Rl) : Value -> Value -> Prop
  | bool (b : Bool) : VR F R (.bool b) (.bool b)
  | int (k : IntKind) (n : Int) : VR F R (.int k n) (.int k n)
  | float (k : FloatKind) (n : Nat) : VR F R (.float k n) (.float k n)
  | complex (k : FloatKind) (n m : Nat) : VR F R (.complex k n m) (.complex k n m)
  | string (s : ByteArray) : VR F R (.string s) (.string s)
  | nilPointer : VR F R (.pointer none) (.pointer none)
  | pointer {a a' : Addr} : AR R a a' -> VR F R (.pointer (some a)) (.pointer (some a'))
  | nilSlice (n c : Nat) : VR F R (.slice none n c) (.slice none n c)
  | slice {a a' : Addr} (n c : Nat) : AR R a a' -> VR F R (.slice (some a) n c) (.slice (some a') n c)
  | nilMap : VR F R (.map none) (.map none)
  | nilChan : VR F R (.chan none) (.chan none)
  | chan {r r' : Nat} : R.ch r r' -> VR F R (.chan (some r)) (.chan (some r'))
  | nilFunc : VR F R .nilFunc .nilFunc
  | func (f : FuncId) {a a' c c' : Array Value} : F f = true -> a.size = a'.size -> (∀ (i : Nat) (v v' : Value), a[i]? = some v -> a'[i]? = some v' -> VR F R v v') ->
      c.size = c'.size -> (∀ (i : Nat) (v v' : Value), c[i]? = some v -> c'[i]? = some v' -> VR F R v v') -> VR F R (.func (.func f) a c) (.func (.func f) a' c')
  | nilIface : VR F R .nilIface .nilIface
  | agg {c c' : Array Value} : c.size = c'.size -> (∀ (i : Nat) (v v' : Value), c[i]? = some v -> c'[i]? = some v' -> VR F R v v') -> VR F R (.agg c) (.agg c')
  | tuple {c c' : Array Value} : c.size = c'.size -> (∀ (i : Nat) (v v' : Value), c[i]? = some v -> c'[i]? = some v' -> VR F R v v') -> VR F R (.tuple c) (.tuple c')
  | poison {v' : Value} : v'.single -> VR F R (.tuple #[]) v'
structure VRs (F : FuncId -> Bool) (R : Rl) (c c' : Array Value) : Prop where
 size : c.size = c'.size
 get : ∀ (i : Nat) (v v' : Value), c[i]? = some v -> c'[i]? = some v' -> VR F R v v'
inductive OR (F : FuncId -> Bool) (R : Rl) (b' : Nat) : Obj -> Obj -> Prop
 | cells {c c' : Array Value} {t : TypeId} {z z' : Nat × Nat} : VRs F R c c' -> (R.own b' -> z = z') -> (¬ R.own b' -> z = (0, c.size)) -> OR F R b' (.cells c t z) (.cells c' t z')
 | number {a a' : Addr} (l : Bool) : AR R a a' -> OR F R b' (.number a l) (.number a' l)
structure WR (P : Program) (F : FuncId -> Bool) (R : Rl) (w u : World) : Prop where
 dom : ∀ b b', R.rel b b' -> b < w.heap.size /\ b' < u.heap.size
 fn : ∀ b b1 b2, R.rel b b1 -> R.rel b b2 -> b1 = b2
 inj : ∀ b1 b2 b', R.rel b1 b' -> R.rel b2 b' -> b1 = b2
 objs : ∀ b b' o, R.rel b b' -> w.heap[b]? = some o -> ∃ o', u.heap[b']? = some o' /\ OR F R b' o o'
 glob : ∀ b b', R.rel b b' -> b < P.globals.size \/ b' < P.globals.size -> b = b'
 tape : w.tape = u.tape
 drawn : w.drawn = u.drawn
 bigW : P.globals.size <= w.heap.size
 bigU : P.globals.size <= u.heap.size
structure Fr (R R' : Rl) (u u' : World) : Prop where
 size : u.heap.size <= u'.heap.size
 keep : ∀ b', b' < u.heap.size -> ¬ R.own b' -> u'.heap[b']? = u.heap[b']?
 own : ∀ b', R'.own b' ↔ R.own b' \/ (u.heap.size <= b' /\ b' < u'.heap.size)
 new : ∀ b b', R'.rel b b' -> R.rel b b' \/ u.heap.size <= b'
 same : u'.tape = u.tape /\ u'.os = u.os /\ u'.output = u.output
 ch : ∀ r r', R'.ch r r' -> R.ch r r'
theorem Fr.refl (R : Rl) (u : World) : Fr R R u u := ⟨nR _, fun _ _ _ => rfl, fun b' => ⟨.inl, fun h => h.elim id fun x => by omega⟩, fun _ _ h => .inl h, ⟨rfl, rfl, rfl⟩, fun _ _ h => h⟩
theorem Fr.trans {R R' R'' : Rl} {u u' u'' : World} (h : Fr R R' u u') (h' : Fr R' R'' u' u'') : Fr R R'' u u'' := by
 refine ⟨Nat.le_trans h.size h'.size, fun b' hb hn => ?_, fun b' => ?_, fun b b' hr => ?_, ⟨h'.same.1.trans h.same.1, h'.same.2.1.trans h.same.2.1, h'.same.2.2.trans h.same.2.2⟩, fun r r' hr => h.ch _ _ (h'.ch _ _ hr)⟩
 ·rw [h'.keep b' (Nat.lt_of_lt_of_le hb h.size) fun ho => (h.own b').1 ho |>.elim hn (fun x => by omega), h.keep b' hb hn]
 ·rw [h'.own, h.own]
  have := h.size; have := h'.size
  constructor
  ·rintro ((x | x) | x)
   ·exact .inl x
   ·exact .inr (by omega)
   ·exact .inr (by omega)
  ·rintro (x | x)
   ·exact .inl (.inl x)
   ·by_cases hb : b' < u'.heap.size
    ·exact .inl (.inr ⟨x.1, hb⟩)
    ·exact .inr ⟨by omega, x.2⟩
 ·rcases h'.new b b' hr with x | x
  ·exact h.new b b' x
  ·exact .inr (Nat.le_trans h.size x)
inductive EvR (R : Rl) : Event -> Prop
 | cell {b : Nat} {a : Addr} (wr : Bool) : R.rel b a.block -> (wr = true -> R.own a.block) -> EvR R ⟨.cell a, wr, false⟩
 | obj {b r : Nat} : R.rel b r -> EvR R ⟨.obj r, false, false⟩
 | noRoom (x y : Bool) : EvR R ⟨.mark .noRoom, x, y⟩
theorem AR.mono {R R' : Rl} (h : R.le R') {a a' : Addr} (x : AR R a a') : AR R' a a' := by cases x with | mk o s hr => exact .mk o s (h.rel _ _ hr)
theorem VR.mono {F : FuncId -> Bool} {R R' : Rl} (h : R.le R') {v v' : Value} (x : VR F R v v') : VR F R' v v' := by
 induction x with
 | pointer ha => exact .pointer (ha.mono h)
 | slice n c ha => exact .slice n c (ha.mono h)
 | chan hr => exact .chan (h.ch _ _ hr)
 | func f hf h1 _ h3 _ ih2 ih4 => exact .func f hf h1 ih2 h3 ih4
 | agg h1 _ ih => exact .agg h1 ih
 | tuple h1 _ ih => exact .tuple h1 ih
 | poison hs => exact .poison hs
 | _ => constructor
theorem VRs.mono {F : FuncId -> Bool} {R R' : Rl} (h : R.le R') {c c' : Array Value} (x : VRs F R c c') : VRs F R' c c' := ⟨x.size, fun i v v' a b => (x.get i v v' a b).mono h⟩
theorem EvR.mono {R R' : Rl} (h : R.le R') {e : Event} (x : EvR R e) : EvR R' e := by
 cases x with
 | cell wr hr ho => exact .cell wr (h.rel _ _ hr) fun x => h.own _ (ho x)
 | obj hr => exact .obj (h.rel _ _ hr)
 | noRoom x y => exact .noRoom x y
def Sim (P : Program) (F : FuncId -> Bool) {α α' : Type} (A : Rl -> α -> α' -> Prop) (R : Rl) (s : Sem α) (s' : Sem α') : Prop :=
 ∀ R1, R.le R1 -> ∀ w u, WR P F R1 w u -> ∀ es a w1 es1, s.runT P w es = (.ok a w1, es1) -> ∀ us, ∃ R2 a' u1 us1, R1.le R2 /\ s'.runT P u us = (.ok a' u1, us1) /\ WR P F R2 w1 u1 /\ A R2 a a' /\ Fr R1 R2 u u1 /\ ∀ e ∈ us1, e ∈ us \/ EvR R2 e
section
variable {P : Program} {F : FuncId -> Bool} {α β α' β' : Type} {R : Rl}
theorem runT_bind (s : Sem α) (f : α -> Sem β) (w : World) (es : Array Event) : (s >>= f).runT P w es = match s.runT P w es with | (.ok a w1, es1) => (f a).runT P w1 es1 | (.halt h w1, es1) => (.halt h w1, es1) := by
  show (s.bind f).runT P w es = _
  induction s generalizing w es with
  | pure a => rfl
  | load m a k ih =>
    simp only [Sem.bind, Sem.runT]
    split
    · exact ih _ _ _
    · split
      · exact ih _ _ _
      · rfl
  | store m a v k ih =>
    cases v <;> first
    | rfl
    | (simp only [Sem.bind, Sem.runT]
       split
       · split
         · rfl
         · exact ih _ _
       · split
         · exact ih _ _
         · rfl)
  | new o k ih => exact ih _ _ _
  | shape r k ih => exact ih _ _ _
  | freeze a n k ih => exact ih _ _
  | frozen a k ih => exact ih _ _ _
  | getObj r k ih =>
    simp only [Sem.bind, Sem.runT]
    split <;> first | rfl | exact ih _ _ _
  | setObj r o k ih =>
    simp only [Sem.bind, Sem.runT]
    split <;> first | rfl | exact ih _ _
  | choose q k ih =>
    simp only [Sem.bind, Sem.runT]
    split <;> exact ih _ _ _
  | sys c k ih => exact ih _ _ _
  | program k ih => exact ih _ _ _
  | mark m k ih => exact ih _ _
  | halt x => rfl
theorem sim_pure {A : Rl -> α -> α' -> Prop} {a : α} {a' : α'} (h : ∀ R1, R.le R1 -> A R1 a a') : Sim P F A R (pure a) (pure a') := by
 intro R1 hR w u hw es x w1 es1 hx us
 cases hx
 exact ⟨R1, a', u, us, .refl _, rfl, hw, h _ hR, .refl _ _, fun e he => .inl he⟩
theorem sim_bind {A : Rl -> α -> α' -> Prop} {B : Rl -> β -> β' -> Prop} {s : Sem α} {s' : Sem α'} {f : α -> Sem β} {f' : α' -> Sem β'}
  (h : Sim P F A R s s') (hf : ∀ R1, R.le R1 -> ∀ a a', A R1 a a' -> Sim P F B R1 (f a) (f' a')) : Sim P F B R (s >>= f) (s' >>= f') := by
 intro R1 hR w u hw es b w1 es1 hb us
 rw [runT_bind] at hb
 cases hr : s.runT P w es with
 | mk r es2 =>
  rw [hr] at hb
  cases r with
  | halt x w2 => cases hb
  | ok a w2 =>
   obtain ⟨R2, a', u1, us1, l1, e1, w1', ha, f1, v1⟩ := h R1 hR w u hw es a w2 es2 hr us
   obtain ⟨R3, b', u2, us2, l2, e2, w2', hb', f2, v2⟩ := hf R2 (hR.trans l1) a a' ha R2 (.refl _) w2 u1 w1' es2 b w1 es1 hb us1
   refine ⟨R3, b', u2, us2, l1.trans l2, ?_, w2', hb', f1.trans f2, fun e he => ?_⟩
   ·rw [runT_bind, e1]; exact e2
   ·rcases v2 e he with x | x
    ·exact (v1 e x).imp id (·.mono l2)
    ·exact .inr x
theorem sim_halt {A : Rl -> α -> α' -> Prop} (x : Halt) (s' : Sem α') : Sim P F A R (.halt x : Sem α) s' := by
 intro R1 _ w u _ es a w1 es1 h
 cases h
theorem sim_mono {A B : Rl -> α -> α' -> Prop} {s : Sem α} {s' : Sem α'} (h : Sim P F A R s s') (hAB : ∀ R1, R.le R1 -> ∀ a a', A R1 a a' -> B R1 a a') : Sim P F B R s s' := by
 intro R1 hR w u hw es a w1 es1 hr us
 obtain ⟨R2, a', u1, us1, l1, e1, w1', ha, f1, v1⟩ := h R1 hR w u hw es a w1 es1 hr us
 exact ⟨R2, a', u1, us1, l1, e1, w1', hAB _ (hR.trans l1) _ _ ha, f1, v1⟩
end
section
variable {P : Program} {F : FuncId -> Bool} {R : Rl}
theorem VRs.hit {c c' : Array Value} (h : VRs F R c c') {i : Nat} {v : Value} (hi : c[i]? = some v) : ∃ v', c'[i]? = some v' /\ VR F R v v' := by
 have hlt := (aS.1 hi).1
 have e : c'[i]? = some (c'[i]'(h.size ▸ hlt)) := aG (h.size ▸ hlt)
 exact ⟨_, e, h.get i _ _ hi e⟩
theorem VRs.set {c c' : Array Value} (h : VRs F R c c') {v v' : Value} (hv : VR F R v v') (i : Nat) : VRs F R (c.setIfInBounds i v) (c'.setIfInBounds i v') := by
 refine ⟨by simp [h.size], fun k x x' hx hx' => ?_⟩
 rw [Array.getElem?_setIfInBounds] at hx hx'
 by_cases e : i = k
 ·subst e
  rw [<- h.size] at hx'
  by_cases hlt : i < c.size
  ·simp [hlt] at hx hx'; subst hx hx'; exact hv
  ·simp [hlt] at hx
 ·simp [e] at hx hx'
  exact h.get k _ _ hx hx'
theorem VRs.push {c c' : Array Value} (h : VRs F R c c') {v v' : Value} (hv : VR F R v v') : VRs F R (c.push v) (c'.push v') := by
 refine ⟨by simp [h.size], fun k x x' hx hx' => ?_⟩
 rw [Array.getElem?_push] at hx hx'
 rw [<- h.size] at hx'
 by_cases e : k = c.size
 ·simp [e] at hx hx'; subst hx hx'; exact hv
 ·simp [e] at hx hx'; exact h.get k _ _ hx hx'
theorem VRs.nil : VRs F R #[] #[] := ⟨rfl, fun i v v' h => by simp at h⟩
theorem VRs.one {v v' : Value} (h : VR F R v v') : VRs F R #[v] #[v'] := (VRs.nil.push h)
theorem VR.cells {v v' : Value} (h : VR F R v v') : VRs F R v.cells v'.cells := by
 cases h with
 | agg h1 h2 => exact ⟨h1, h2⟩
 | @poison v' hs => cases v' <;> first | exact VRs.one (.poison trivial) | exact hs.elim
 | _ => refine VRs.one ?_; constructor <;> assumption
section
variable {w u : World}
theorem WR.obj (hw : WR P F R w u) {b b' : Nat} (h : R.rel b b') : ∃ o o', w.heap[b]? = some o /\ u.heap[b']? = some o' /\ OR F R b' o o' := by
 have hlt := (hw.dom _ _ h).1
 obtain ⟨o', h1, h2⟩ := hw.objs b b' _ h (aG hlt)
 exact ⟨_, o', aG hlt, h1, h2⟩
theorem WR.mono {R1 : Rl} (h : WR P F R1 w u) : WR P F R1 w u := h
end
theorem sim_load {a a' : Addr} (h : AR R a a') (m : Mode) (hm : m ≠ .atomic) : Sim P F (fun R v v' => VR F R v v') R (load a m) (load a' m) := by
 intro R1 hR w u hw es v w1 es1 hr us
 cases h with
 | @mk b b' o s hb =>
 have hb1 := hR.rel _ _ hb
 obtain ⟨ob, ob', ho, ho', hor⟩ := hw.obj hb1
 simp only [load, Sem.runT] at hr
 cases hor with
 | number l ha =>
  have hc : w.cell? ⟨b, o, s⟩ = none := by simp [World.cell?, ho]
  rw [hc] at hr
  simp only [World.farLoad, ho] at hr
  cases hr
 | @cells c c' t z z' hcs hz hz' =>
  have hfar : ∀ x, w.farLoad P ⟨b, o, s⟩ x = .error (w.noCell ⟨b, o, s⟩ "load: no such cell") := fun x => by simp [World.farLoad, ho]
  cases hc : w.cell? ⟨b, o, s⟩ with
  | none => rw [hc] at hr; simp only [hfar] at hr; cases hr
  | some v0 =>
   rw [hc] at hr
   cases hr
   simp only [World.cell?, ho] at hc
   split at hc
   ·cases hc
   ·rename_i hs
    obtain ⟨v', hv', hvr⟩ := hcs.hit hc
    refine ⟨R1, v', u, us.push ⟨.cell ⟨b', o, s⟩, false, m == .atomic⟩, .refl _, ?_, hw, hvr, .refl _ _, fun e he => ?_⟩
    ·simp only [load, Sem.runT]
     have : u.cell? ⟨b', o, s⟩ = some v' := by simp [World.cell?, ho', hv', hs]
     rw [this]
    ·rcases Array.mem_push.1 he with h | h
     ·exact .inl h
     ·subst h
      have : (m == Mode.atomic) = false := by cases m <;> first | rfl | exact absurd rfl hm
      rw [this]
      exact .inr (.cell false hb1 fun h => by cases h)
theorem modify_cells {h : Array Obj} {b : Nat} {c : Array Value} {t : TypeId} {z : Nat × Nat} {f : Obj -> Obj} (ho : h[b]? = some (.cells c t z)) (n : Nat) : (h.modify b f)[n]? = if b = n then some (f (.cells c t z)) else h[n]? := by
 rw [Array.getElem?_modify]
 split
 ·rename_i e; subst e; rw [ho]; rfl
 ·rfl
theorem sim_store {a a' : Addr} {v v' : Value} (h : AR R a a') (hv : VR F R v v') (m : Mode) (hm : m ≠ .atomic) : Sim P F (fun _ _ _ => True) R (store a v m) (store a' v' m) := by
  intro R1 hR w u hw es x w1 es1 hr us
  have hv1 := hv.mono hR
  have step : ∀ (w0 : World) (es0 : Array Event) (a0 : Addr) (v0 : Value), (∀ c, v0 ≠ .agg c) -> (∀ c, v0 ≠ .tuple c) -> (store a0 v0 m).runT P w0 es0 = match w0.cell? a0 with
        | some _ => if w0.frozen? a0 then (.halt (.unsupported (.unsafePointer "a write to bytes that a string shares")) w0, es0) else (.ok () (w0.setCell a0 v0), es0.push ⟨.cell a0, true, m == .atomic⟩)
        | none => match w0.farStore P a0 v0 (m == .atomic) with
          | .ok (w1, touched) => (.ok () w1, es0 ++ touched.toArray.map (⟨.cell ·, true, m == .atomic⟩))
          | .error h => (.halt h w0, es0) := by
      intro w0 es0 a0 v0 h1 h2
      cases v0 <;> first | rfl | exact absurd rfl (h1 _) | exact absurd rfl (h2 _)
  by_cases hg : (∃ c, v = .agg c) \/ ∃ c, v = .tuple c
  · rcases hg with ⟨c, rfl⟩ | ⟨c, rfl⟩ <;> cases hr
  have n1 : ∀ c, v ≠ .agg c := fun c e => hg (.inl ⟨c, e⟩)
  have n2 : ∀ c, v ≠ .tuple c := fun c e => hg (.inr ⟨c, e⟩)
  have n1' : ∀ c, v' ≠ .agg c := fun c e => by
    subst e
    cases hv with
    | agg _ _ => exact n1 _ rfl
    | poison _ => exact n2 _ rfl
  have n2' : ∀ c, v' ≠ .tuple c := fun c e => by
    subst e
    cases hv with
    | tuple _ _ => exact n2 _ rfl
    | poison _ => exact n2 _ rfl
  rw [step _ _ _ _ n1 n2] at hr
  cases h with
  | @mk b b' o s hb =>
  have hb1 := hR.rel _ _ hb
  obtain ⟨ob, ob', ho, ho', hor⟩ := hw.obj hb1
  cases hor with
  | number l ha =>
    have hc : w.cell? ⟨b, o, s⟩ = none := by simp [World.cell?, ho]
    rw [hc] at hr
    simp only [World.farStore, ho] at hr
    cases hr
  | @cells c c' t z z' hcs hz hz' =>
    have hfar : ∀ y, w.farStore P ⟨b, o, s⟩ v y = .error (w.noCell ⟨b, o, s⟩ "store: no such cell") := fun y => by simp [World.farStore, ho]
    cases hc : w.cell? ⟨b, o, s⟩ with
    | none => rw [hc] at hr; simp only [hfar] at hr; cases hr
    | some v0 =>
      rw [hc] at hr
      simp only at hr
      split at hr
      · cases hr
      rename_i hfz
      cases hr
      simp only [World.cell?, ho] at hc
      split at hc
      · cases hc
      rename_i hs
      obtain ⟨v0', hv0', _⟩ := hcs.hit hc
      have hown : R1.own b' := Classical.byContradiction fun hn => hfz (by
        have hlt := (aS.1 hc).1
        simp [World.frozen?, ho, hz' hn, hlt])
      have hcell' : u.cell? ⟨b', o, s⟩ = some v0' := by simp [World.cell?, ho', hv0', hs]
      have hfz' : u.frozen? ⟨b', o, s⟩ = false := by
        have : u.frozen? ⟨b', o, s⟩ = w.frozen? ⟨b, o, s⟩ := by simp [World.frozen?, ho, ho', hz hown]
        rw [this]; simpa using hfz
      have hW : ∀ n, (w.setCell ⟨b, o, s⟩ v).heap[n]? = if b = n then some (.cells (c.setIfInBounds o v) t z) else w.heap[n]? := fun n => by
        simp only [World.setCell]; rw [modify_cells ho]; simp [hs]
      have hU : ∀ n, (u.setCell ⟨b', o, s⟩ v').heap[n]? = if b' = n then some (.cells (c'.setIfInBounds o v') t z') else u.heap[n]? := fun n => by
        simp only [World.setCell]; rw [modify_cells ho']; simp [hs]
      have sW : (w.setCell ⟨b, o, s⟩ v).heap.size = w.heap.size := by simp [World.setCell]
      have sU : (u.setCell ⟨b', o, s⟩ v').heap.size = u.heap.size := by simp [World.setCell]
      refine ⟨R1, (), u.setCell ⟨b', o, s⟩ v', us.push ⟨.cell ⟨b', o, s⟩, true, m == .atomic⟩, .refl _, ?_, ⟨fun x x' hx => ?_, hw.fn, hw.inj, fun x x' ox hx hox => ?_, hw.glob, hw.tape, hw.drawn, by rw [sW]; exact hw.bigW, by rw [sU]; exact hw.bigU⟩, trivial, ⟨by rw [sU]; exact nR _, fun x hx hno => ?_, fun x => ?_, fun _ _ h => .inl h, ⟨rfl, rfl, rfl⟩, fun _ _ h => h⟩, fun e he => ?_⟩
      · rw [step _ _ _ _ n1' n2', hcell']
        simp [hfz']
      · rw [sW, sU]; exact hw.dom _ _ hx
      · rw [hW] at hox
        rw [hU]
        by_cases e : b = x
        · subst e
          obtain rfl := hw.fn _ _ _ hb1 hx
          simp only [if_true, Option.some.injEq] at hox ⊢
          subst hox
          exact ⟨_, rfl, .cells (hcs.set hv1 o) hz fun h => absurd hown h⟩
        · have e' : b' ≠ x' := fun h => e (hw.inj _ _ _ hb1 (h ▸ hx))
          simp only [e, e', if_false] at hox ⊢
          exact hw.objs x x' ox hx hox
      · rw [hU, if_neg fun e : b' = x => hno (e ▸ hown)]
      · rw [sU]
        exact ⟨.inl, fun h => h.elim id fun y => by omega⟩
      · rcases Array.mem_push.1 he with h | h
        · exact .inl h
        · subst h
          have : (m == Mode.atomic) = false := by cases m <;> first | rfl | exact absurd rfl hm
          rw [this]
          exact .inr (.cell true hb1 fun _ => hown)
def Rl.put (R : Rl) (n n' : Nat) : Rl := { rel := fun b b' => R.rel b b' \/ (b = n /\ b' = n'), ch := R.ch, own := fun b' => R.own b' \/ b' = n' }
theorem Rl.le_put (R : Rl) (n n' : Nat) : R.le (R.put n n') := ⟨fun _ _ h => .inl h, fun _ _ h => h, fun _ h => .inl h⟩
theorem push_WR {w u : World} {R1 : Rl} (hw : WR P F R1 w u) {o o' : Obj} (h : OR F (R1.put w.heap.size u.heap.size) u.heap.size o o') :
  WR P F (R1.put w.heap.size u.heap.size) { w with heap := w.heap.push o } { u with heap := u.heap.push o' } := by
 have hle := R1.le_put w.heap.size u.heap.size
 refine ⟨fun b b' hb => ?_, fun b b1 b2 h1 h2 => ?_, fun b1 b2 b' h1 h2 => ?_, fun b b' x hb hx => ?_, fun b b' hb hg => ?_, hw.tape, hw.drawn, by simp; have := hw.bigW; omega, by simp; have := hw.bigU; omega⟩
 ·simp only [Array.size_push]
  rcases hb with hb | ⟨rfl, rfl⟩
  ·have := hw.dom _ _ hb; omega
  ·omega
 ·rcases h1 with h1 | ⟨rfl, rfl⟩ <;> rcases h2 with h2 | ⟨h2, h3⟩
  ·exact hw.fn _ _ _ h1 h2
  ·have := hw.dom _ _ h1; omega
  ·have := hw.dom _ _ h2; omega
  ·exact h3.symm
 ·rcases h1 with h1 | ⟨rfl, rfl⟩ <;> rcases h2 with h2 | ⟨h2, h3⟩
  ·exact hw.inj _ _ _ h1 h2
  ·have := hw.dom _ _ h1; omega
  ·have := hw.dom _ _ h2; omega
  ·exact h2.symm
 ·simp only at hx ⊢
  rw [Array.getElem?_push] at hx ⊢
  rcases hb with hb | ⟨rfl, rfl⟩
  ·have hd := hw.dom _ _ hb
   rw [if_neg (by omega)] at hx ⊢
   obtain ⟨x', h1, h2⟩ := hw.objs b b' x hb hx
   refine ⟨x', h1, ?_⟩
   have hiff : ∀ y, (R1.put w.heap.size u.heap.size).own b' -> R1.own b' \/ y := fun _ h => h.elim .inl fun h => absurd h (by omega)
   cases h2 with
   | cells hc hz hz' => exact .cells (hc.mono hle) (fun h => hz ((hiff False h).elim id False.elim)) (fun h => hz' fun h' => h (.inl h'))
   | number l ha => exact .number l (ha.mono hle)
  ·rw [if_pos rfl] at hx ⊢
   cases hx
   exact ⟨o', rfl, h⟩
 ·rcases hb with hb | ⟨rfl, rfl⟩
  ·exact hw.glob _ _ hb hg
  ·have := hw.bigW; have := hw.bigU; omega
theorem push_Fr {u : World} {R1 : Rl} (n : Nat) (o' : Obj) : Fr R1 (R1.put n u.heap.size) u { u with heap := u.heap.push o' } := by
 refine ⟨by simp, fun b' hb _ => ?_, fun b' => ?_, fun b b' h => ?_, ⟨rfl, rfl, rfl⟩, fun _ _ h => h⟩
 ·simp only; rw [Array.getElem?_push, if_neg (by omega)]
 ·simp only [Array.size_push]
  constructor
  ·rintro (h | rfl)
   ·exact .inl h
   ·exact .inr ⟨nR _, by omega⟩
  ·rintro (h | h)
   ·exact .inl h
   ·exact .inr (by omega)
 ·rcases h with h | ⟨_, rfl⟩
  ·exact .inl h
  ·exact .inr (nR _)
theorem sim_newCells {c c' : Array Value} (h : VRs F R c c') (t : TypeId) : Sim P F (fun R n n' => R.rel n n') R (newObj (.cells c t)) (newObj (.cells c' t)) := by
 intro R1 hR w u hw es x w1 es1 hr us
 cases hr
 exact ⟨R1.put w.heap.size u.heap.size, u.heap.size, { u with heap := u.heap.push (.cells c' t) }, us, R1.le_put _ _, rfl, push_WR hw (.cells ((h.mono hR).mono (R1.le_put _ _)) (fun _ => rfl) fun hn => absurd (.inr rfl) hn), .inr ⟨rfl, rfl⟩, push_Fr _ _, fun e he => .inl he⟩
theorem sim_newNumber {a a' : Addr} (h : AR R a a') (l : Bool) : Sim P F (fun R n n' => R.rel n n') R (newObj (.number a l)) (newObj (.number a' l)) := by
 intro R1 hR w u hw es x w1 es1 hr us
 cases hr
 exact ⟨R1.put w.heap.size u.heap.size, u.heap.size, { u with heap := u.heap.push (.number a' l) }, us, R1.le_put _ _, rfl, push_WR hw (.number l ((h.mono hR).mono (R1.le_put _ _))), .inr ⟨rfl, rfl⟩, push_Fr _ _, fun e he => .inl he⟩
theorem sim_shape {r r' : Nat} (h : R.rel r r') : Sim P F (fun _ x x' => x = x') R (shape r) (shape r') := by
 intro R1 hR w u hw es x w1 es1 hr us
 cases hr
 obtain ⟨o, o', ho, ho', hor⟩ := hw.obj (hR.rel _ _ h)
 refine ⟨R1, u.shape? r', u, us, .refl _, rfl, hw, ?_, .refl _ _, fun e he => .inl he⟩
 unfold World.shape?
 rw [ho, ho']
 cases hor with
 | cells hc _ _ => simp [hc.size]
 | number l _ => rfl
theorem sim_choose (q : Question) : Sim P F (fun _ x x' => x = x') R (choose q) (choose q) := by
 intro R1 hR w u hw es x w1 es1 hr us
 simp only [choose, Sem.runT] at hr ⊢
 split at hr
 ·rename_i hf
  cases hr
  exact ⟨R1, 0, u, us, .refl _, by simp [hf], hw, rfl, .refl _ _, fun e he => .inl he⟩
 ·rename_i hf
  cases hr
  refine ⟨R1, q.cut (u.tape u.drawn q), { u with drawn := u.drawn + 1 }, us, .refl _, by simp [hf], ⟨hw.dom, hw.fn, hw.inj, hw.objs, hw.glob, hw.tape, by simp [hw.drawn], hw.bigW, hw.bigU⟩, by rw [hw.tape, hw.drawn], ⟨nR _, fun _ _ _ => rfl, fun b' => ⟨.inl, fun h => h.elim id fun x => by simp only at x; omega⟩, fun _ _ h => .inl h, ⟨rfl, rfl, rfl⟩, fun _ _ h => h⟩, fun e he => .inl he⟩
theorem sim_program : Sim P F (fun _ x x' => x = P /\ x' = P) R program program := by
 intro R1 hR w u hw es x w1 es1 hr us
 cases hr
 exact ⟨R1, P, u, us, .refl _, rfl, hw, ⟨rfl, rfl⟩, .refl _ _, fun e he => .inl he⟩
theorem sim_viewAt {r r' : Nat} (h : R.rel r r') : Sim P F (fun _ x x' => x = none /\ x' = none) R (viewAt r) (viewAt r') := by
 intro R1 hR w u hw es x w1 es1 hr us
 obtain ⟨o, o', ho, ho', hor⟩ := hw.obj (hR.rel _ _ h)
 cases hor with
 | @cells c c' t z z' hc _ _ =>
  have e : ∀ (w : World) (es : Array Event) (r : Nat) c t z, w.heap[r]? = some (.cells c t z) -> (viewAt r).runT P w es = (.ok none w, es) := fun w es r c t z h => by
   simp only [viewAt, runT_bind, shape, Sem.runT, World.shape?, h]; rfl
  rw [e _ _ _ _ _ _ ho] at hr
  cases hr
  exact ⟨R1, none, u, us, .refl _, e _ _ _ _ _ _ ho', hw, ⟨rfl, rfl⟩, .refl _ _, fun e he => .inl he⟩
 | @number a a' l ha =>
  have e : ∀ (w : World) (es : Array Event) (r : Nat) a l, w.heap[r]? = some (.number a l) -> (viewAt r).runT P w es = (.ok none w, es.push ⟨.obj r, false, false⟩) := fun w es r a l h => by
   simp only [viewAt, runT_bind, shape, Sem.runT, World.shape?, h, getObj]
   rw [if_neg (by simp), runT_bind]
   simp only [Sem.runT, h]
   rfl
  rw [e _ _ _ _ _ ho] at hr
  cases hr
  refine ⟨R1, none, u, _, .refl _, e _ _ _ _ _ ho', hw, ⟨rfl, rfl⟩, .refl _ _, fun e he => ?_⟩
  rcases Array.mem_push.1 he with h2 | h2
  ·exact .inl h2
  ·subst h2; exact .inr (.obj (hR.rel _ _ h))
inductive NumR (R : Rl) : Option (Addr × Bool) -> Option (Addr × Bool) -> Prop
 | none : NumR R none none
 | some {a a' : Addr} (l : Bool) : AR R a a' -> NumR R (some (a, l)) (some (a', l))
theorem sim_numberAt {r r' : Nat} (h : R.rel r r') : Sim P F (fun R x x' => NumR R x x') R (numberAt r) (numberAt r') := by
 intro R1 hR w u hw es x w1 es1 hr us
 obtain ⟨o, o', ho, ho', hor⟩ := hw.obj (hR.rel _ _ h)
 cases hor with
 | @cells c c' t z z' hc _ _ =>
  have e : ∀ (w : World) (es : Array Event) (r : Nat) c t z, w.heap[r]? = some (.cells c t z) -> (numberAt r).runT P w es = (.ok none w, es) := fun w es r c t z h => by
   simp only [numberAt, runT_bind, shape, Sem.runT, World.shape?, h]; rfl
  rw [e _ _ _ _ _ _ ho] at hr
  cases hr
  exact ⟨R1, none, u, us, .refl _, e _ _ _ _ _ _ ho', hw, .none, .refl _ _, fun e he => .inl he⟩
 | @number a a' l ha =>
  have e : ∀ (w : World) (es : Array Event) (r : Nat) a l, w.heap[r]? = some (.number a l) -> (numberAt r).runT P w es = (.ok (some (a, l)) w, es.push ⟨.obj r, false, false⟩) := fun w es r a l h => by
   simp only [numberAt, runT_bind, shape, Sem.runT, World.shape?, h, getObj]
   rw [if_neg (by simp), runT_bind]
   simp only [Sem.runT, h]
   rfl
  rw [e _ _ _ _ _ ho] at hr
  cases hr
  refine ⟨R1, some (a', l), u, _, .refl _, e _ _ _ _ _ ho', hw, .some l ha, .refl _ _, fun e he => ?_⟩
  rcases Array.mem_push.1 he with h2 | h2
  ·exact .inl h2
  ·subst h2; exact .inr (.obj (hR.rel _ _ h))
end
end Go.Tp
