/- A part of the proof of RentMoreTrunks; no conditions of its own. -/
import GoSem.Step
import Derived.StepT
import Derived.Laws.Sem
import Derived.Conc.Beside
set_option maxRecDepth 100000
open Nat renaming le_refl → nR
open Option.some renaming injEq → oI
open Nat renaming lt_of_lt_of_le → nL
namespace Go.Tp
def fin : Obj := .finalizers #[] none
def isFin : Obj -> Bool
 | .finalizers fs none => fs.isEmpty
 | _ => false
def _root_.Go.Obj.junk : Obj -> Prop
 | .loop _ | .deferred _ | .chan .. => True
 | _ => False
abbrev Junk := Nat -> Option Obj
def Junk.ok (j : Junk) : Prop := ∀ n o, j n = some o -> o.junk
def noJ : Junk := fun _ => none
theorem noJ_ok : noJ.ok := fun _ _ h => by cases h
def fillAt (j : Junk) (n : Nat) (o : Obj) : Obj := if isFin o then (j n).getD o else o
def fill (h : Array Obj) (j : Junk) : Array Obj := h.mapIdx fun n o => fillAt j n o
def _root_.Go.World.tp (w : World) (τ : Nat -> Question -> Nat) (d : Nat) (j : Junk) : World := { w with heap := fill w.heap j, tape := τ, drawn := d }
def _root_.Go.Result.tp {α : Type} (r : Result α) (τ : Nat -> Question -> Nat) (d : Nat) (j : Junk) : Result α :=
 match r with
 | .ok a w => .ok a (w.tp τ d j)
 | .halt h w => .halt h (w.tp τ d j)
def _root_.Go.Result.fails {α : Type} (r : Result α) : Bool :=
 match r with
 | .halt (.stuck _) _ => true
 | _ => false
def Agree (w : World) (k : Nat) (τ : Nat -> Question -> Nat) (d : Nat) : Prop := ∀ j, j < k -> τ (d + j) = w.tape (w.drawn + j)
theorem fillAt_noJ (n : Nat) (o : Obj) : fillAt noJ n o = o := by unfold fillAt; split <;> rfl
theorem fill_noJ (h : Array Obj) : fill h noJ = h := by
 apply Array.ext
 ·simp [fill]
 ·intro i h1 h2; simp [fill, fillAt_noJ]
theorem tp_self (w : World) : w.tp w.tape w.drawn noJ = w := by unfold World.tp; rw [fill_noJ]
theorem fill_get (h : Array Obj) (j : Junk) (n : Nat) : (fill h j)[n]? = (h[n]?).map (fillAt j n) := by simp [fill]
theorem fill_size (h : Array Obj) (j : Junk) : (fill h j).size = h.size := by simp [fill]
theorem fillAt_of_not {o : Obj} (h : isFin o = false) (j : Junk) (n : Nat) : fillAt j n o = o := by simp [fillAt, h]
theorem isFin_eq {o : Obj} (h : isFin o = true) : o = fin := by
 unfold isFin at h
 split at h
 ·rename_i fs; simp only [Array.isEmpty_iff] at h; subst h; rfl
 ·cases h
theorem fillAt_cases {j : Junk} (hj : j.ok) (n : Nat) (o : Obj) : fillAt j n o = o \/ (o = fin /\ (fillAt j n o).junk) := by
 unfold fillAt
 split
 ·rename_i h
  cases e : j n with
  | none => exact .inl rfl
  | some x => exact .inr ⟨isFin_eq h, hj n x e⟩
 ·exact .inl rfl
@[simp] theorem tp_tape (w : World) (τ : Nat -> Question -> Nat) (d : Nat) (j : Junk) : (w.tp τ d j).tape = τ := rfl
@[simp] theorem tp_drawn (w : World) (τ : Nat -> Question -> Nat) (d : Nat) (j : Junk) : (w.tp τ d j).drawn = d := rfl
@[simp] theorem tp_os (w : World) (τ : Nat -> Question -> Nat) (d : Nat) (j : Junk) : (w.tp τ d j).os = w.os := rfl
@[simp] theorem tp_output (w : World) (τ : Nat -> Question -> Nat) (d : Nat) (j : Junk) : (w.tp τ d j).output = w.output := rfl
theorem tp_heap (w : World) (τ : Nat -> Question -> Nat) (d : Nat) (j : Junk) (n : Nat) : (w.tp τ d j).heap[n]? = (w.heap[n]?).map (fillAt j n) := fill_get _ _ _
theorem tp_size (w : World) (τ : Nat -> Question -> Nat) (d : Nat) (j : Junk) : (w.tp τ d j).heap.size = w.heap.size := fill_size _ _
section
variable (w : World) (τ : Nat -> Question -> Nat) (d : Nat) {j : Junk} (hj : j.ok)
include hj
theorem tp_read {β : Type} (f : Option Obj -> β) (hf : ∀ o : Obj, o.junk -> f (some o) = f (some fin)) (n : Nat) : f ((w.tp τ d j).heap[n]?) = f (w.heap[n]?) := by
 rw [tp_heap]
 cases e : w.heap[n]? with
 | none => rfl
 | some o =>
  rcases fillAt_cases hj n o with h | ⟨h1, h2⟩
  ·simp [h]
  ·subst h1; exact hf _ h2
theorem tp_cell? (a : Addr) : (w.tp τ d j).cell? a = w.cell? a :=
 tp_read w τ d hj (fun x => match x with | some (.cells c _ _) => if a.spot.isSome then none else c[a.off]? | _ => none) (fun o h => by cases o <;> first | rfl | exact h.elim) a.block
theorem tp_frozen? (a : Addr) : (w.tp τ d j).frozen? a = w.frozen? a :=
 tp_read w τ d hj (fun x => match x with | some (.cells _ _ (lo, hi)) => lo <= a.off && a.off < hi | _ => false) (fun o h => by cases o <;> first | rfl | exact h.elim) a.block
theorem tp_shape? (r : Nat) : (w.tp τ d j).shape? r = w.shape? r :=
 tp_read w τ d hj (fun x => match x with | some (.cells c elem _) => some (elem, c.size) | _ => none) (fun o h => by cases o <;> first | rfl | exact h.elim) r
theorem tp_noCell (a : Addr) (s : String) : (w.tp τ d j).noCell a s = w.noCell a s :=
 tp_read w τ d hj (fun x => match x with | some (.pending ..) => Halt.unsupported (.initOrder a.block) | some (.view ..) => .unsupported (.unsafePointer "memory read or written as another type") | _ => .stuck s) (fun o h => by cases o <;> first | rfl | exact h.elim) a.block
theorem tp_cells (n : Nat) (c : Array Value) (t : TypeId) (z : Nat × Nat) : (w.tp τ d j).heap[n]? = some (.cells c t z) ↔ w.heap[n]? = some (.cells c t z) := by
 rw [tp_heap]
 cases e : w.heap[n]? with
 | none => simp
 | some o =>
  rcases fillAt_cases hj n o with h | ⟨h1, h2⟩
  ·simp [h]
  ·subst h1
   constructor
   ·intro h; simp only [Option.map_some, oI] at h; rw [h] at h2; exact h2.elim
   ·intro h; cases h
end
theorem fill_set (h : Array Obj) (j : Junk) (r : Nat) {o : Obj} (ho : isFin o = false) : fill (h.setIfInBounds r o) j = (fill h j).setIfInBounds r o := by
 apply Array.ext_getElem?
 intro n
 rw [fill_get, Array.getElem?_setIfInBounds, Array.getElem?_setIfInBounds, fill_get, fill_size]
 split
 ·split
  ·simp [fillAt_of_not ho]
  ·rfl
 ·rfl
theorem fill_push (h : Array Obj) (j : Junk) {o : Obj} (ho : isFin o = false) : fill (h.push o) j = (fill h j).push o := by
 apply Array.ext_getElem?
 intro n
 rw [fill_get, Array.getElem?_push, Array.getElem?_push, fill_get, fill_size]
 split
 ·simp [fillAt_of_not ho]
 ·rfl
theorem fill_modify (h : Array Obj) {j : Junk} (hj : j.ok) (b : Nat) (f : Obj -> Obj) (hc : ∀ c t z, ∃ c' z', f (.cells c t z) = .cells c' t z') (hf : ∀ o : Obj, (∀ c t z, o ≠ .cells c t z) -> f o = o) :
  fill (h.modify b f) j = (fill h j).modify b f := by
 apply Array.ext_getElem?
 intro n
 rw [fill_get, Array.getElem?_modify, Array.getElem?_modify, fill_get]
 split
 ·cases e : h[n]? with
  | none => rfl
  | some o =>
   simp only [Option.map_some, oI]
   by_cases ho : ∃ c t z, o = .cells c t z
   ·obtain ⟨c, t, z, rfl⟩ := ho
    obtain ⟨c', z', e'⟩ := hc c t z
    rw [e', fillAt_of_not (by rfl), fillAt_of_not (by rfl), e']
   ·rw [hf o (fun c t z e => ho ⟨c, t, z, e⟩)]
    rcases fillAt_cases hj n o with h1 | ⟨_, h2⟩
    ·rw [h1, hf o (fun c t z e => ho ⟨c, t, z, e⟩)]
    ·rw [hf _ (fun c t z e => by rw [e] at h2; exact h2.elim)]
 ·rfl
theorem tp_seen (p : Program) (w : World) (τ : Nat -> Question -> Nat) (d : Nat) {j : Junk} (hj : j.ok) (a : Addr) (u : TypeId) (k : Addr) (x : Bool) : (w.tp τ d j).seen p a u k x = w.seen p a u k x := by
 unfold World.seen
 by_cases hc : ∃ c t z, w.heap[a.block]? = some (.cells c t z)
 ·obtain ⟨c, t, z, e⟩ := hc
  rw [e, (tp_cells w τ d hj a.block c t z).2 e]
 ·have h1 : ∀ c t z, w.heap[a.block]? ≠ some (.cells c t z) := fun c t z e => hc ⟨c, t, z, e⟩
  have h2 : ∀ c t z, (w.tp τ d j).heap[a.block]? ≠ some (.cells c t z) := fun c t z e => h1 c t z ((tp_cells w τ d hj a.block c t z).1 e)
  generalize (w.tp τ d j).heap[a.block]? = y1 at *
  generalize w.heap[a.block]? = y2 at *
  rcases y1 with _ | o1 <;> rcases y2 with _ | o2 <;> (try cases o1) <;> (try cases o2) <;> first | rfl | exact absurd rfl (h1 _ _ _) | exact absurd rfl (h2 _ _ _)
theorem tp_viewLoad (p : Program) (w : World) (τ : Nat -> Question -> Nat) (d : Nat) {j : Junk} (hj : j.ok) (a : Addr) (u : TypeId) (k : Addr) (x : Bool) : (w.tp τ d j).viewLoad p a u k x = w.viewLoad p a u k x := by
 unfold World.viewLoad; rw [tp_seen p w τ d hj]
theorem tp_farLoad (p : Program) (w : World) (τ : Nat -> Question -> Nat) (d : Nat) {j : Junk} (hj : j.ok) (a : Addr) (x : Bool) : (w.tp τ d j).farLoad p a x = w.farLoad p a x := by
 unfold World.farLoad
 rw [tp_heap]
 have hn := tp_noCell w τ d hj a "load: no such cell"
 cases e : w.heap[a.block]? with
 | none => simp only [Option.map_none, hn]
 | some o =>
  rcases fillAt_cases hj a.block o with h | ⟨h1, h2⟩
  ·simp only [Option.map_some, h, tp_viewLoad p w τ d hj, hn]
  ·subst h1
   simp only [Option.map_some]
   cases e2 : fillAt j a.block fin <;> rw [e2] at h2 <;> first | exact h2.elim | (simp only [hn]; rfl)
theorem tp_setCell (w : World) (τ : Nat -> Question -> Nat) (d : Nat) {j : Junk} (hj : j.ok) (a : Addr) (v : Value) : (w.tp τ d j).setCell a v = (w.setCell a v).tp τ d j := by
 unfold World.setCell World.tp
 simp only
 rw [fill_modify _ hj _ _ (fun c t z => ⟨_, _, rfl⟩) (fun o ho => by cases o <;> first | rfl | exact absurd rfl (ho _ _ _))]
theorem tp_freeze (w : World) (τ : Nat -> Question -> Nat) (d : Nat) {j : Junk} (hj : j.ok) (a : Addr) (n : Nat) : (w.tp τ d j).freeze a n = (w.freeze a n).tp τ d j := by
 unfold World.freeze
 split
 ·rfl
 ·unfold World.tp
  simp only
  rw [fill_modify _ hj _ _ (fun c t z => ⟨_, _, rfl⟩) (fun o ho => by cases o <;> first | rfl | exact absurd rfl (ho _ _ _))]
theorem tp_viewStore (p : Program) (w : World) (τ : Nat -> Question -> Nat) (d : Nat) {j : Junk} (hj : j.ok) (a : Addr) (u : TypeId) (k : Addr) (v : Value) (x : Bool) :
  (w.tp τ d j).viewStore p a u k v x = match w.viewStore p a u k v x with | .ok r => .ok (r.1.tp τ d j, r.2) | .error e => .error e := by
 unfold World.viewStore
 rw [tp_seen p w τ d hj]
 simp only [bind, Except.bind, pure, Except.pure]
 split
 ·rfl
 ·cases h : w.seen p a u k x with
  | error e => rfl
  | ok r =>
   obtain ⟨c, e, fr, first, like, cells⟩ := r
   simp only
   cases v.bytes? with
   | none => rfl
   | some bytes =>
    simp only
    split
    ·rfl
    ·split
     ·rfl
     ·simp only [World.tp]
      rw [fill_set _ _ _ (by rfl)]
theorem tp_farStore (p : Program) (w : World) (τ : Nat -> Question -> Nat) (d : Nat) {j : Junk} (hj : j.ok) (a : Addr) (v : Value) (x : Bool) :
  (w.tp τ d j).farStore p a v x = match w.farStore p a v x with | .ok r => .ok (r.1.tp τ d j, r.2) | .error e => .error e := by
 unfold World.farStore
 rw [tp_heap]
 have hn := tp_noCell w τ d hj a "store: no such cell"
 cases e : w.heap[a.block]? with
 | none => simp only [Option.map_none, hn]
 | some o =>
  rcases fillAt_cases hj a.block o with h | ⟨h1, h2⟩
  ·simp only [Option.map_some, h, hn]
   split
   ·rw [tp_viewStore p w τ d hj]
    cases w.viewStore p _ _ a v x <;> rfl
   ·rfl
  ·subst h1
   simp only [Option.map_some]
   cases e2 : fillAt j a.block fin <;> rw [e2] at h2 <;> first | exact h2.elim | (simp only [hn]; rfl)
def _root_.Go.Mark.mild : Mark -> Prop
 | .noRoom | .extern _ => True
 | _ => False
def okE (N : Nat) (e : Event) : Prop := ((∃ m, e.loc = .mark m /\ m.mild) \/ ∀ m, e.loc ≠ .mark m) /\ e.loc.low N
theorem okE.mono {N N' : Nat} {e : Event} (h : okE N e) (hN : N <= N') : okE N' e := ⟨h.1, Loc.low_mono hN h.2⟩
theorem okE_cell {N : Nat} {a : Addr} {x y : Bool} (h : a.block < N) : okE N ⟨.cell a, x, y⟩ := ⟨.inr (by simp), h⟩
theorem okE_obj {N r : Nat} {x y : Bool} (h : r < N) : okE N ⟨.obj r, x, y⟩ := ⟨.inr (by simp), h⟩
theorem okE_output {N : Nat} {x y : Bool} : okE N ⟨.output, x, y⟩ := ⟨.inr (by simp), trivial⟩
theorem okE_mark {N : Nat} {m : Mark} {x y : Bool} (h : m.mild) : okE N ⟨.mark m, x, y⟩ := ⟨.inl ⟨m, rfl, h⟩, trivial⟩
def _root_.Go.Result.room {α : Type} (r : Result α) : Nat := match r with
 | .ok _ w => w.heap.size
 | .halt _ w => w.heap.size
def okH : Halt -> Prop
 | .panic _ => True
 | .stuck _ => True
 | .unsupported _ => True
 | _ => False
def opOk (dfr : Bool) (o : Oper) : Bool := match o.op with
 | .call { callee := .builtin b, .. } => b == .append || b == .cap || b == .clear || b == .copy || b == .delete || b == .len || b == .max || b == .min || b == .recover
 | .makeChan _ (.const (.int .i64 0)) => true
 | .makeChan .. => false
 | .go { callee := .builtin _, .. } | .defer { callee := .builtin _, .. } => false
 | .defer _ => dfr
 | .ready _ | .waits _ => false
 | .select _ b => b
 | _ => true
def codeOk : Bool -> Code -> Bool
 | d, .region _ ops _ => ops.all (opOk d)
 | d, .seq a b | d, .cond _ a b => codeOk d a && codeOk d b
 | _, .rangeFunc _ _ a b => codeOk false a && codeOk false b
 | d, .block _ c | d, .loop c | d, .scope c => codeOk d c
 | _, .goto _ => false
 | _, _ => true
def _root_.Go.Deferred.good (d : Deferred) : Prop := match d.target with
 | .builtin .. | .coroexit _ => False
 | _ => True
def _root_.Go.Obj.started : Obj -> Prop
 | .chan cap buf closed _ _ tm => cap = 0 /\ buf = #[] /\ closed = false /\ tm = false
 | .loop l => codeOk false l.assign = true /\ codeOk false l.body = true /\ ∀ c, l.pending = some c -> codeOk false c = true
 | .deferred (some ds) => ∀ d ∈ ds, d.good
 | _ => True
def Started (w : World) : Prop := ∀ (n : Nat) (o : Obj), w.heap[n]? = some o -> o.started
def Calm (P : Program) {α : Type} (A : α -> Prop) : Sem α -> Prop
 | .pure a => A a
 | .load _ _ k => ∀ v, Calm P A (k v)
 | .store _ _ _ k => Calm P A k
 | .new o k => (o.started /\ isFin o = false) /\ ∀ n, Calm P A (k n)
 | .shape _ k => ∀ x, Calm P A (k x)
 | .freeze _ _ k => Calm P A k
 | .frozen _ k => ∀ b, Calm P A (k b)
 | .getObj _ k => (∀ o, o.started -> Calm P A (k o)) /\ ((∃ s, k fin = .halt (.stuck s)) \/ ∀ o : Obj, o.junk -> k o = k fin)
 | .setObj _ o k => (o.started /\ isFin o = false) /\ Calm P A k
 | .choose _ k => ∀ n, Calm P A (k n)
 | .sys c k => c = .env /\ ∀ r, Calm P A (k r)
 | .program k => Calm P A (k P)
 | .mark m k => m.mild /\ Calm P A k
 | .halt h => okH h
theorem Calm.mono {P : Program} {α : Type} {A B : α -> Prop} (hab : ∀ a, A a -> B a) {s : Sem α} (h : Calm P A s) : Calm P B s := by
 induction s with
 | pure a => exact hab _ h
 | load m a k ih => exact fun v => ih v (h v)
 | store m a v k ih => exact ih h
 | new o k ih => exact ⟨h.1, fun n => ih n (h.2 n)⟩
 | shape r k ih => exact fun v => ih v (h v)
 | freeze a n k ih => exact ih h
 | frozen a k ih => exact fun v => ih v (h v)
 | getObj r k ih => exact ⟨fun v hv => ih v (h.1 v hv), h.2⟩
 | setObj r o k ih => exact ⟨h.1, ih h.2⟩
 | choose q k ih => exact fun v => ih v (h v)
 | sys c k ih => exact ⟨h.1, fun v => ih v (h.2 v)⟩
 | program k ih => exact ih P h
 | mark m k ih => exact ⟨h.1, ih h.2⟩
 | halt x => exact h
theorem Calm.bind' {P : Program} {α β : Type} {A : α -> Prop} {B : β -> Prop} {s : Sem α} {f : α -> Sem β} (h : Calm P A s) (hf : ∀ a, A a -> Calm P B (f a)) : Calm P B (s.bind f) := by
 induction s with
 | pure a => exact hf _ h
 | load m a k ih => exact fun v => ih v (h v)
 | store m a v k ih => exact ih h
 | new o k ih => exact ⟨h.1, fun n => ih n (h.2 n)⟩
 | shape r k ih => exact fun v => ih v (h v)
 | freeze a n k ih => exact ih h
 | frozen a k ih => exact fun v => ih v (h v)
 | getObj r k ih => exact ⟨fun v hv => ih v (h.1 v hv), h.2.imp (fun ⟨s, e⟩ => ⟨s, by simp only [Sem.bind, e]⟩) (fun e o ho => by simp only [e o ho])⟩
 | setObj r o k ih => exact ⟨h.1, ih h.2⟩
 | choose q k ih => exact fun v => ih v (h v)
 | sys c k ih => exact ⟨h.1, fun v => ih v (h.2 v)⟩
 | program k ih => exact ih P h
 | mark m k ih => exact ⟨h.1, ih h.2⟩
 | halt x => exact h
def okR {α : Type} (A : α -> Prop) : Result α -> Prop
 | .ok a w => A a /\ Started w
 | .halt h w => okH h /\ Started w
theorem okH_noCell (w : World) (a : Addr) (s : String) : okH (w.noCell a s) := by
 unfold World.noCell; split <;> exact trivial
theorem started_setCell {w : World} (hs : Started w) (a : Addr) (v : Value) : Started (w.setCell a v) := by
 intro n o h
 simp only [World.setCell, Array.getElem?_modify] at h
 split at h
 ·cases hx : w.heap[n]? with
  | none => rw [hx] at h; cases h
  | some x =>
   rw [hx] at h
   simp only [Option.map_some, oI] at h
   have := hs _ _ hx
   subst h
   cases x <;> exact this
 ·exact hs _ _ h
theorem started_freeze {w : World} (hs : Started w) (a : Addr) (n : Nat) : Started (w.freeze a n) := by
 unfold World.freeze
 split
 ·exact hs
 intro m o h
 simp only [Array.getElem?_modify] at h
 split at h
 ·cases hx : w.heap[m]? with
  | none => rw [hx] at h; cases h
  | some x =>
   rw [hx] at h
   simp only [Option.map_some, oI] at h
   have := hs _ _ hx
   subst h
   cases x <;> exact this
 ·exact hs _ _ h
theorem started_push {w : World} (hs : Started w) {o : Obj} (ho : o.started) : Started { w with heap := w.heap.push o } := by
 intro n x h
 rw [Array.getElem?_push] at h
 split at h
 ·cases h; exact ho
 ·exact hs _ _ h
theorem started_set {w : World} (hs : Started w) (r : Nat) {o : Obj} (ho : o.started) : Started { w with heap := w.heap.setIfInBounds r o } := by
 intro n x h
 rw [Array.getElem?_setIfInBounds] at h
 split at h
 ·split at h
  ·cases h; exact ho
  ·cases h
 ·exact hs _ _ h
theorem started_farStore {p : Program} {w w' : World} {a : Addr} {v : Value} {x : Bool} {l : List Addr} (hs : Started w) (h : w.farStore p a v x = .ok (w', l)) : Started w' := by
 unfold World.farStore at h
 split at h
 ·split at h
  ·rename_i r hr
   cases h
   unfold World.viewStore at hr
   simp only [bind, Except.bind, pure, Except.pure] at hr
   (repeat' split at hr) <;> first | (cases hr; exact started_set hs _ trivial) | cases hr
  ·cases h
 ·cases h
def More (N : Nat) (es es' : Array Event) : Prop := ∀ e ∈ es', e ∈ es \/ okE N e
theorem More.refl (N : Nat) (es : Array Event) : More N es es := fun _ h => .inl h
theorem More.push {N : Nat} {es es' : Array Event} {x : Event} (hx : okE N x) (h : More N (es.push x) es') : More N es es' := fun e he => by
 rcases h e he with h4 | h4
 ·rcases Array.mem_push.1 h4 with h5 | h5
  ·exact .inl h5
  ·exact .inr (h5 ▸ hx)
 ·exact .inr h4
theorem More.app {N : Nat} {es es' xs : Array Event} (hx : ∀ x ∈ xs, okE N x) (h : More N (es ++ xs) es') : More N es es' := fun e he => by
 rcases h e he with h4 | h4
 ·rcases Array.mem_append.1 h4 with h5 | h5
  ·exact .inl h5
  ·exact .inr (hx e h5)
 ·exact .inr h4
theorem lt_of_some {w : World} {n : Nat} {o : Obj} (h : w.heap[n]? = some o) : n < w.heap.size := (Array.getElem?_eq_some_iff.1 h).1
theorem lt_of_cell {w : World} {a : Addr} {v : Value} (h : w.cell? a = some v) : a.block < w.heap.size := by
 unfold World.cell? at h
 split at h
 ·rename_i e; exact lt_of_some e
 ·cases h
theorem seen_low {p : Program} {w : World} {a : Addr} {u : TypeId} {k : Addr} {x : Bool} {r} (h : w.seen p a u k x = .ok r) : a.block < w.heap.size := by
 unfold World.seen at h
 by_cases hc : ∃ o, w.heap[a.block]? = some o
 ·obtain ⟨o, ho⟩ := hc; exact lt_of_some ho
 ·have hn : w.heap[a.block]? = none := by
   cases e : w.heap[a.block]? with
   | none => rfl
   | some o => exact absurd ⟨o, e⟩ hc
  exfalso
  rw [hn] at h
  simp only [bind, Except.bind] at h
  (repeat' split at h) <;> simp_all
theorem farLoad_low {p : Program} {w : World} {a : Addr} {x : Bool} {v : Value} {l : List Addr} (h : w.farLoad p a x = .ok (v, l)) : ∀ b ∈ l, b.block < w.heap.size := by
 unfold World.farLoad at h
 split at h
 ·split at h
  ·rename_i r hr
   cases h
   unfold World.viewLoad at hr
   simp only [bind, Except.bind, pure, Except.pure] at hr
   cases hs : w.seen p _ _ a x with
   | error e => rw [hs] at hr; cases hr
   | ok y =>
    have := seen_low hs
    rw [hs] at hr
    simp only at hr
    split at hr
    ·cases hr
     intro b hb
     obtain ⟨z, _, rfl⟩ := List.mem_map.1 hb
     exact this
    ·cases hr
  ·cases h
 ·cases h
theorem farStore_low {p : Program} {w w' : World} {a : Addr} {x : Bool} {v : Value} {l : List Addr} (h : w.farStore p a v x = .ok (w', l)) : (∀ b ∈ l, b.block < w.heap.size) /\ w'.heap.size = w.heap.size := by
  unfold World.farStore at h
  split at h
  · split at h
    · rename_i r hr
      cases h
      unfold World.viewStore at hr
      simp only [bind, Except.bind, pure, Except.pure] at hr
      split at hr
      · cases hr
      cases hs : w.seen p _ _ a x with
      | error e => rw [hs] at hr; cases hr
      | ok y =>
        have := seen_low hs
        rw [hs] at hr
        simp only at hr
        (repeat' split at hr) <;> first
          | (cases hr; done)
          | (cases hr
             refine ⟨fun b hb => ?_, by simp⟩
             obtain ⟨z, _, rfl⟩ := List.mem_map.1 hb
             exact this)
    · cases h
  · cases h
theorem calm_run {P : Program} {α : Type} {A : α -> Prop} (s : Sem α) : ∀ (w : World), Calm P A s -> Started w ->
    ∃ k r, (∀ τ d j es, j.ok -> Agree w k τ d -> (j = noJ \/ r.fails = false) -> ∃ es', s.runT P (w.tp τ d j) es = (Result.tp r τ (d + k) j, es') /\ More r.room es es') /\ okR A r /\ w.heap.size <= r.room := by
  induction s with
  | pure a => exact fun w h hs => ⟨0, .ok a w, fun τ d j es _ _ _ => ⟨es, rfl, .refl _ _⟩, ⟨h, hs⟩, nR _⟩
  | load m a k ih =>
    intro w h hs
    cases hc : w.cell? a with
    | some v =>
      obtain ⟨n, r, h1, h3⟩ := ih v w (h v) hs
      refine ⟨n, r, fun τ d j es hj hA hx => ?_, h3⟩
      obtain ⟨es', g1, g2⟩ := h1 τ d j (es.push ⟨.cell a, false, m == .atomic⟩) hj hA hx
      exact ⟨es', by simp only [Sem.runT, tp_cell? w τ d hj, hc]; exact g1, g2.push (okE_cell (nL (lt_of_cell hc) h3.2))⟩
    | none =>
      cases hf : w.farLoad P a (m == .atomic) with
      | ok r0 =>
        obtain ⟨v, touched⟩ := r0
        obtain ⟨n, r, h1, h3⟩ := ih v w (h v) hs
        refine ⟨n, r, fun τ d j es hj hA hx => ?_, h3⟩
        obtain ⟨es', g1, g2⟩ := h1 τ d j (es ++ touched.toArray.map (⟨.cell ·, false, m == .atomic⟩)) hj hA hx
        refine ⟨es', by simp only [Sem.runT, tp_cell? w τ d hj, hc, tp_farLoad P w τ d hj, hf]; exact g1, g2.app fun x hx => ?_⟩
        obtain ⟨y, hy, rfl⟩ := Array.mem_map.1 hx
        exact ⟨.inr (by simp), nL (farLoad_low hf y (by simpa using hy)) h3.2⟩
      | error e =>
        refine ⟨0, .halt e w, fun τ d j es hj _ _ => ⟨es, ?_, .refl _ _⟩, ⟨?_, hs⟩, nR _⟩
        · simp only [Sem.runT, tp_cell? w τ d hj, hc, tp_farLoad P w τ d hj, hf]; rfl
        · unfold World.farLoad at hf
          split at hf
          · split at hf <;> cases hf; trivial
          · cases hf; exact okH_noCell _ _ _
  | store m a v k ih =>
    intro w h hs
    by_cases hv : (∃ c, v = .agg c) \/ ∃ c, v = .tuple c
    · refine ⟨0, .halt (.stuck "store: not the value of one cell") w, fun τ d j es _ _ _ => ⟨es, ?_, .refl _ _⟩, ⟨trivial, hs⟩, nR _⟩
      rcases hv with ⟨c, rfl⟩ | ⟨c, rfl⟩ <;> rfl
    have step : ∀ (w0 : World) (es0 : Array Event), (Sem.store m a v k).runT P w0 es0 = match w0.cell? a with
        | some _ => if w0.frozen? a then (.halt (.unsupported (.unsafePointer "a write to bytes that a string shares")) w0, es0) else k.runT P (w0.setCell a v) (es0.push ⟨.cell a, true, m == .atomic⟩)
        | none => match w0.farStore P a v (m == .atomic) with
          | .ok (w1, touched) => k.runT P w1 (es0 ++ touched.toArray.map (⟨.cell ·, true, m == .atomic⟩))
          | .error h => (.halt h w0, es0) := by
      intro w0 es0
      cases v <;> first | rfl | exact absurd (.inl ⟨_, rfl⟩) hv | exact absurd (.inr ⟨_, rfl⟩) hv
    cases hc : w.cell? a with
    | some x =>
      by_cases hz : w.frozen? a = true
      · refine ⟨0, .halt (.unsupported (.unsafePointer "a write to bytes that a string shares")) w, fun τ d j es hj _ _ => ⟨es, ?_, .refl _ _⟩, ⟨trivial, hs⟩, nR _⟩
        rw [step, tp_cell? w τ d hj, hc, tp_frozen? w τ d hj, hz]; rfl
      · obtain ⟨n, r, h1, h3⟩ := ih (w.setCell a v) h (started_setCell hs _ _)
        rw [show (w.setCell a v).heap.size = w.heap.size by simp [World.setCell]] at h3
        refine ⟨n, r, fun τ d j es hj hA hx => ?_, h3⟩
        obtain ⟨es', g1, g2⟩ := h1 τ d j (es.push ⟨.cell a, true, m == .atomic⟩) hj hA hx
        refine ⟨es', ?_, g2.push (okE_cell (nL (lt_of_cell hc) h3.2))⟩
        rw [step, tp_cell? w τ d hj, hc, tp_frozen? w τ d hj]
        simp only [hz, Bool.false_eq_true, if_false, tp_setCell w τ d hj]
        exact g1
    | none =>
      cases hf : w.farStore P a v (m == .atomic) with
      | ok r0 =>
        obtain ⟨w1, touched⟩ := r0
        obtain ⟨n, r, h1, h3⟩ := ih w1 h (started_farStore hs hf)
        rw [(farStore_low hf).2] at h3
        have hd : w1.tape = w.tape /\ w1.drawn = w.drawn := by
          have := tp_farStore P w w.tape w.drawn noJ_ok a v (m == .atomic)
          rw [tp_self, hf] at this
          simp only [Except.ok.injEq, Prod.mk.injEq] at this
          rw [this.1]; exact ⟨rfl, rfl⟩
        refine ⟨n, r, fun τ d j es hj hA hx => ?_, h3⟩
        obtain ⟨es', g1, g2⟩ := h1 τ d j (es ++ touched.toArray.map (⟨.cell ·, true, m == .atomic⟩)) hj (fun i hi => by rw [hd.1, hd.2]; exact hA i hi) hx
        refine ⟨es', ?_, g2.app fun x hx => ?_⟩
        · rw [step, tp_cell? w τ d hj, hc, tp_farStore P w τ d hj, hf]
          exact g1
        · obtain ⟨y, hy, rfl⟩ := Array.mem_map.1 hx
          exact ⟨.inr (by simp), nL ((farStore_low hf).1 y (by simpa using hy)) h3.2⟩
      | error e =>
        refine ⟨0, .halt e w, fun τ d j es hj _ _ => ⟨es, ?_, .refl _ _⟩, ⟨?_, hs⟩, nR _⟩
        · rw [step, tp_cell? w τ d hj, hc, tp_farStore P w τ d hj, hf]; rfl
        · unfold World.farStore at hf
          split at hf
          · split at hf <;> cases hf; trivial
          · cases hf; exact okH_noCell _ _ _
  | new o k ih =>
    intro w h hs
    obtain ⟨n, r, h1, h3⟩ := ih w.heap.size { w with heap := w.heap.push o } (h.2 _) (started_push hs h.1.1)
    refine ⟨n, r, fun τ d j es hj hA hx => ?_, h3.1, Nat.le_trans (by simp) h3.2⟩
    obtain ⟨es', g1, g2⟩ := h1 τ d j es hj hA hx
    refine ⟨es', ?_, g2⟩
    simp only [Sem.runT, tp_size]
    have e : ({ w with heap := w.heap.push o } : World).tp τ d j = { w.tp τ d j with heap := (w.tp τ d j).heap.push o } := by
      unfold World.tp; simp only; rw [fill_push _ _ h.1.2]
    rw [<- e]; exact g1
  | shape x k ih =>
    intro w h hs
    obtain ⟨n, r, h1, h3⟩ := ih (w.shape? x) w (h _) hs
    refine ⟨n, r, fun τ d j es hj hA hx => ?_, h3⟩
    obtain ⟨es', g1, g2⟩ := h1 τ d j es hj hA hx
    exact ⟨es', by simp only [Sem.runT, tp_shape? w τ d hj]; exact g1, g2⟩
  | freeze a n k ih =>
    intro w h hs
    obtain ⟨m, r, h1, h3⟩ := ih (w.freeze a n) h (started_freeze hs _ _)
    rw [show (w.freeze a n).heap.size = w.heap.size by unfold World.freeze; split <;> simp] at h3
    have hd : (w.freeze a n).tape = w.tape /\ (w.freeze a n).drawn = w.drawn := by unfold World.freeze; split <;> exact ⟨rfl, rfl⟩
    refine ⟨m, r, fun τ d j es hj hA hx => ?_, h3⟩
    obtain ⟨es', g1, g2⟩ := h1 τ d j es hj (fun i hi => by rw [hd.1, hd.2]; exact hA i hi) hx
    exact ⟨es', by simp only [Sem.runT, tp_freeze w τ d hj]; exact g1, g2⟩
  | frozen a k ih =>
    intro w h hs
    obtain ⟨n, r, h1, h3⟩ := ih (w.frozen? a) w (h _) hs
    refine ⟨n, r, fun τ d j es hj hA hx => ?_, h3⟩
    obtain ⟨es', g1, g2⟩ := h1 τ d j es hj hA hx
    exact ⟨es', by simp only [Sem.runT, tp_frozen? w τ d hj]; exact g1, g2⟩
  | getObj x k ih =>
    intro w h hs
    have step : ∀ (w0 : World) (es0 : Array Event), (Sem.getObj x k).runT P w0 es0 = match w0.heap[x]? with
        | some (.cells ..) => (.halt (.stuck "getObj: a row of cells") w0, es0)
        | some o => (k o).runT P w0 (es0.push ⟨.obj x, false, o.isChan⟩)
        | none => (.halt (.stuck "getObj: no such block") w0, es0) := by
      intro w0 es0
      rw [Sem.runT]
      cases w0.heap[x]? with
      | none => rfl
      | some o => cases o <;> rfl
    cases ho : w.heap[x]? with
    | none => exact ⟨0, .halt (.stuck "getObj: no such block") w, fun τ d j es _ _ _ => ⟨es, by rw [step, tp_heap, ho]; rfl, .refl _ _⟩, ⟨trivial, hs⟩, nR _⟩
    | some o =>
      by_cases hc : ∃ c t z, o = .cells c t z
      · obtain ⟨c, t, z, rfl⟩ := hc
        exact ⟨0, .halt (.stuck "getObj: a row of cells") w, fun τ d j es _ _ _ => ⟨es, by rw [step, tp_heap, ho]; simp only [Option.map_some, fillAt_of_not (show isFin (.cells c t z) = false from rfl)]; rfl, .refl _ _⟩, ⟨trivial, hs⟩, nR _⟩
      · have nc : ∀ (o' : Obj) (w0 : World) (es0 : Array Event), (∀ c t z, o' ≠ .cells c t z) -> w0.heap[x]? = some o' -> (Sem.getObj x k).runT P w0 es0 = (k o').runT P w0 (es0.push ⟨.obj x, false, o'.isChan⟩) := by
          intro o' w0 es0 h1 h2
          rw [step, h2]
          cases o' <;> first | rfl | exact absurd rfl (h1 _ _ _)
        by_cases hfin : isFin o = true
        · obtain rfl := isFin_eq hfin
          rcases h.2 with ⟨s, e⟩ | e
          · refine ⟨0, .halt (.stuck s) w, fun τ d j es hj _ hx => ?_, ⟨trivial, hs⟩, nR _⟩
            rcases hx with rfl | hx
            · refine ⟨es.push ⟨.obj x, false, false⟩, ?_, More.push (okE_obj (lt_of_some ho)) (More.refl _ _)⟩
              rw [nc fin _ _ (fun c t z e => by cases e) (by rw [tp_heap, ho]; simp [fillAt_noJ]), e]
              rfl
            · cases hx
          · obtain ⟨n, r, h1, h3⟩ := ih fin w (h.1 _ (hs _ _ ho)) hs
            refine ⟨n, r, fun τ d j es hj hA hx => ?_, h3⟩
            rcases fillAt_cases hj x fin with e1 | ⟨_, e1⟩
            · obtain ⟨es', g1, g2⟩ := h1 τ d j (es.push ⟨.obj x, false, false⟩) hj hA hx
              refine ⟨es', ?_, g2.push (okE_obj (nL (lt_of_some ho) h3.2))⟩
              rw [nc fin _ _ (fun c t z e => by cases e) (by rw [tp_heap, ho]; simp [e1])]
              exact g1
            · obtain ⟨es', g1, g2⟩ := h1 τ d j (es.push ⟨.obj x, false, (fillAt j x fin).isChan⟩) hj hA hx
              refine ⟨es', ?_, g2.push (okE_obj (nL (lt_of_some ho) h3.2))⟩
              rw [nc (fillAt j x fin) _ _ (fun c t z e => by rw [e] at e1; exact e1.elim) (by rw [tp_heap, ho]; rfl), e _ e1]
              exact g1
        · obtain ⟨n, r, h1, h3⟩ := ih o w (h.1 _ (hs _ _ ho)) hs
          refine ⟨n, r, fun τ d j es hj hA hx => ?_, h3⟩
          obtain ⟨es', g1, g2⟩ := h1 τ d j (es.push ⟨.obj x, false, o.isChan⟩) hj hA hx
          refine ⟨es', ?_, g2.push (okE_obj (nL (lt_of_some ho) h3.2))⟩
          rw [nc o _ _ (fun c t z e => hc ⟨c, t, z, e⟩) (by rw [tp_heap, ho]; simp [fillAt_of_not (by simpa using hfin)])]
          exact g1
  | setObj x o k ih =>
    intro w h hs
    have step : ∀ (w0 : World) (es0 : Array Event), (Sem.setObj x o k).runT P w0 es0 = match w0.heap[x]? with
        | some (.cells ..) => (.halt (.stuck "setObj: a row of cells") w0, es0)
        | some _ => k.runT P { w0 with heap := w0.heap.setIfInBounds x o } (es0.push ⟨.obj x, true, o.isChan⟩)
        | none => (.halt (.stuck "setObj: no such block") w0, es0) := fun _ _ => rfl
    cases ho : w.heap[x]? with
    | none => exact ⟨0, .halt (.stuck "setObj: no such block") w, fun τ d j es _ _ _ => ⟨es, by rw [step, tp_heap, ho]; rfl, .refl _ _⟩, ⟨trivial, hs⟩, nR _⟩
    | some y =>
      by_cases hc : ∃ c t z, y = .cells c t z
      · obtain ⟨c, t, z, rfl⟩ := hc
        exact ⟨0, .halt (.stuck "setObj: a row of cells") w, fun τ d j es _ _ _ => ⟨es, by rw [step, tp_heap, ho]; simp only [Option.map_some, fillAt_of_not (show isFin (.cells c t z) = false from rfl)]; rfl, .refl _ _⟩, ⟨trivial, hs⟩, nR _⟩
      · have nc : ∀ (o' : Obj) (w0 : World) (es0 : Array Event), (∀ c t z, o' ≠ .cells c t z) -> w0.heap[x]? = some o' -> (Sem.setObj x o k).runT P w0 es0 = k.runT P { w0 with heap := w0.heap.setIfInBounds x o } (es0.push ⟨.obj x, true, o.isChan⟩) := by
          intro o' w0 es0 h1 h2
          rw [step, h2]
          cases o' <;> first | rfl | exact absurd rfl (h1 _ _ _)
        obtain ⟨n, r, h1, h3⟩ := ih { w with heap := w.heap.setIfInBounds x o } h.2 (started_set hs _ h.1.1)
        simp only [Array.size_setIfInBounds] at h3
        refine ⟨n, r, fun τ d j es hj hA hx => ?_, h3⟩
        obtain ⟨es', g1, g2⟩ := h1 τ d j (es.push ⟨.obj x, true, o.isChan⟩) hj hA hx
        refine ⟨es', ?_, g2.push ?_⟩
        · have e : ({ w with heap := w.heap.setIfInBounds x o } : World).tp τ d j = { w.tp τ d j with heap := (w.tp τ d j).heap.setIfInBounds x o } := by
            unfold World.tp; simp only; rw [fill_set _ _ _ h.1.2]
          rw [nc (fillAt j x y) _ _ (fun c t z e => ?_) (by rw [tp_heap, ho]; rfl), <- e]
          · exact g1
          · rcases fillAt_cases hj x y with e1 | ⟨_, e1⟩
            · exact hc ⟨c, t, z, e1 ▸ e⟩
            · rw [e] at e1; exact e1.elim
        · exact (okE_obj (nL (lt_of_some ho) h3.2))
  | choose q k ih =>
    intro w h hs
    by_cases hf : q.forced = true
    · obtain ⟨n, r, h1, h3⟩ := ih 0 w (h _) hs
      refine ⟨n, r, fun τ d j es hj hA hx => ?_, h3⟩
      obtain ⟨es', g1, g2⟩ := h1 τ d j es hj hA hx
      exact ⟨es', by simp only [Sem.runT, hf, if_true]; exact g1, g2⟩
    · obtain ⟨n, r, h1, h3⟩ := ih (q.cut (w.tape w.drawn q)) { w with drawn := w.drawn + 1 } (h _) hs
      refine ⟨n + 1, r, fun τ d j es hj hA hx => ?_, h3⟩
      have h0 : τ d = w.tape w.drawn := by have := hA 0 (by omega); simpa using this
      have h4 : Agree { w with drawn := w.drawn + 1 } n τ (d + 1) := fun j hj => by
        have := hA (j + 1) (by omega)
        simp only
        rw [show d + 1 + j = d + (j + 1) by omega, show w.drawn + 1 + j = w.drawn + (j + 1) by omega]; exact this
      obtain ⟨es', g1, g2⟩ := h1 τ (d + 1) j es hj h4 hx
      refine ⟨es', ?_, g2⟩
      simp only [Sem.runT, hf, Bool.false_eq_true, if_false, tp_tape, tp_drawn, h0]
      rw [show d + (n + 1) = d + 1 + n by omega]
      exact g1
  | sys c k ih =>
    intro w h hs
    obtain rfl := h.1
    obtain ⟨n, r, h1, h3⟩ := ih (.strings w.os.env) w (h.2 _) hs
    refine ⟨n, r, fun τ d j es hj hA hx => ?_, h3⟩
    obtain ⟨es', g1, g2⟩ := h1 τ d j (es.push ⟨.output, true, false⟩) hj hA hx
    exact ⟨es', g1, g2.push okE_output⟩
  | program k ih =>
    intro w h hs
    obtain ⟨n, r, h1, h3⟩ := ih P w h hs
    exact ⟨n, r, fun τ d j es hj hA hx => h1 τ d j es hj hA hx, h3⟩
  | mark m k ih =>
    intro w h hs
    obtain ⟨n, r, h1, h3⟩ := ih w h.2 hs
    refine ⟨n, r, fun τ d j es hj hA hx => ?_, h3⟩
    obtain ⟨es', g1, g2⟩ := h1 τ d j (es.push ⟨.mark m, false, true⟩) hj hA hx
    exact ⟨es', g1, g2.push (okE_mark h.1)⟩
  | halt x => exact fun w h hs => ⟨0, .halt x w, fun τ d j es _ _ _ => ⟨es, rfl, .refl _ _⟩, ⟨h, hs⟩, nR _⟩
class IsCalm (P : Program) {α : Type} (s : Sem α) : Prop where
 out : Calm P (fun _ => True) s
abbrev CalmT (P : Program) {α : Type} (s : Sem α) : Prop := Calm P (fun _ => True) s
section
variable {P : Program} {α β : Type}
theorem calm_bind {A : α -> Prop} {B : β -> Prop} {s : Sem α} {f : α -> Sem β} (h : Calm P A s) (hf : ∀ a, A a -> Calm P B (f a)) : Calm P B (s >>= f) := Calm.bind' h hf
theorem calmT_bind {B : β -> Prop} {s : Sem α} {f : α -> Sem β} (h : CalmT P s) (hf : ∀ a, Calm P B (f a)) : Calm P B (s >>= f) := Calm.bind' h fun a _ => hf a
theorem calm_pure (P : Program) (a : α) : CalmT P (pure a : Sem α) := trivial
theorem calmT_map {s : Sem α} {f : α -> β} (h : CalmT P s) : CalmT P (Functor.map f s) := Calm.bind' h fun _ _ => trivial
theorem calm_program (P : Program) : CalmT P program := trivial
theorem calm_load (P : Program) (a : Addr) (m : Mode) : CalmT P (load a m) := fun _ => trivial
theorem calm_store (P : Program) (a : Addr) (v : Value) (m : Mode) : CalmT P (store a v m) := trivial
theorem calm_newObj (P : Program) {o : Obj} (h : o.started /\ isFin o = false) : CalmT P (newObj o) := ⟨h, fun _ => trivial⟩
theorem calm_shape (P : Program) (r : Nat) : CalmT P (shape r) := fun _ => trivial
theorem calm_freeze (P : Program) (a : Addr) (n : Nat) : CalmT P (freeze a n) := trivial
theorem calm_frozen (P : Program) (a : Addr) : CalmT P (frozen a) := fun _ => trivial
theorem calm_getBind {B : β -> Prop} (r : Nat) {f : Obj -> Sem β} (h1 : ∀ o, o.started -> Calm P B (f o)) (h2 : (∃ s, f fin = .halt (.stuck s)) \/ ∀ o : Obj, o.junk -> f o = f fin) : Calm P B (getObj r >>= f) := ⟨h1, h2⟩
theorem calm_setObj (P : Program) (r : Nat) {o : Obj} (h : o.started /\ isFin o = false) : CalmT P (setObj r o) := ⟨h, trivial⟩
theorem calm_env (P : Program) : CalmT P (sys .env) := ⟨rfl, fun _ => trivial⟩
theorem calm_choose (P : Program) (q : Question) : CalmT P (choose q) := fun _ => trivial
theorem calm_noRoom (P : Program) : CalmT P (mark .noRoom) := ⟨trivial, trivial⟩
theorem calm_markExtern (P : Program) (f : Nat) : CalmT P (mark (.extern f)) := ⟨trivial, trivial⟩
theorem calm_stuck (P : Program) (B : α -> Prop) (s : String) : Calm P B (stuck s : Sem α) := trivial
theorem calm_noEntry (P : Program) (B : α -> Prop) (s : String) : Calm P B (unsupported (.noEntry s) : Sem α) := trivial
theorem calm_unsafeP (P : Program) (B : α -> Prop) (s : String) : Calm P B (unsupported (.unsafePointer s) : Sem α) := trivial
theorem calm_resource (P : Program) (B : α -> Prop) (s : String) : Calm P B (unsupported (.resourceLimit s) : Sem α) := trivial
theorem calm_observed (P : Program) (B : α -> Prop) : Calm P B (unsupported .addressObserved : Sem α) := trivial
theorem calm_extern (P : Program) (B : α -> Prop) (s : String) : Calm P B (unsupported (.extern s) : Sem α) := trivial
theorem calm_goPanic (P : Program) (B : α -> Prop) (v : Value) : Calm P B (goPanic v : Sem α) := trivial
theorem calm_ite {A : α -> Prop} {c : Prop} [Decidable c] {x y : Sem α} (h : c -> Calm P A x) (h' : ¬ c -> Calm P A y) : Calm P A (if c then x else y) := by split <;> simp_all
theorem calm_listForIn {γ : Type} (l : List γ) (f : γ -> β -> Sem (ForInStep β)) (h : ∀ x b, CalmT P (f x b)) : ∀ init, CalmT P (forIn l init f) := by
 induction l with
 | nil => intro b; exact trivial
 | cons x l ih =>
  intro b
  rw [List.forIn_cons]
  refine calmT_bind (h _ _) fun s => ?_
  cases s with
  | done c => exact trivial
  | yield c => exact ih c
theorem calm_arrayForIn {γ : Type} (l : Array γ) (f : γ -> β -> Sem (ForInStep β)) (h : ∀ x b, CalmT P (f x b)) (init : β) : CalmT P (forIn l init f) := by
 rw [<- Array.forIn_toList]; exact calm_listForIn _ _ h _
theorem calm_rangeForIn (a b c : Nat) (hc : 0 < c) (f : Nat -> β -> Sem (ForInStep β)) (h : ∀ x b, CalmT P (f x b)) (init : β) : CalmT P (forIn (⟨a, b, c, hc⟩ : Std.Legacy.Range) init f) := by
 rw [Std.Legacy.Range.forIn_eq_forIn_range']; exact calm_listForIn _ _ h _
theorem calm_listMapM {γ : Type} (l : List γ) (f : γ -> Sem β) (h : ∀ x, CalmT P (f x)) : CalmT P (l.mapM f) := by
 induction l with
 | nil => exact trivial
 | cons x l ih =>
  rw [List.mapM_cons]
  exact calmT_bind (h _) fun _ => calmT_bind ih fun _ => trivial
theorem calm_arrayMapM {γ : Type} (l : Array γ) (f : γ -> Sem β) (h : ∀ x, CalmT P (f x)) : CalmT P (l.mapM f) := by
 rw [Array.mapM_eq_mapM_toList]; exact calmT_map (calm_listMapM _ _ h)
theorem calm_listFoldlM {γ : Type} (l : List γ) (f : β -> γ -> Sem β) (h : ∀ x b, CalmT P (f b x)) : ∀ init, CalmT P (l.foldlM f init) := by
 induction l with
 | nil => intro b; exact trivial
 | cons x l ih => intro b; rw [List.foldlM_cons]; exact calmT_bind (h _ _) fun _ => ih _
end
theorem ac (P : Program) {α : Type} {s : Sem α} (h : CalmT P s := by
 (repeat' first
  | exact calm_pure _ _
  | exact IsCalm.out
  | (refine calm_getBind _ ?_ ?_; rotate_left; (first | exact .inl ⟨_, rfl⟩ | (refine .inr (fun o h => ?_); cases o <;> (first | rfl | exact False.elim h))); intro _ _)
  | (refine calm_newObj _ ?_)
  | (refine calm_setObj _ _ ?_)
  | (refine calm_arrayForIn _ _ (fun _ _ => ?_) _)
  | (refine calm_listForIn _ _ (fun _ _ => ?_) _)
  | (refine calm_rangeForIn _ _ _ _ _ (fun _ _ => ?_) _)
  | (refine calm_arrayMapM _ _ (fun _ => ?_))
  | (refine calm_listFoldlM _ _ (fun _ _ => ?_) _)
  | (refine calmT_bind ?_ (fun _ => ?_))
  | (refine calmT_map ?_)
  | (refine calm_ite (fun _ => ?_) (fun _ => ?_))
  | split
  | assumption
  | exact trivial
  | exact ⟨trivial, rfl⟩
  | dsimp only)) : CalmT P s := h
section
variable (P : Program)
instance i_calm_load (a : Addr) (m : Mode) : IsCalm P (load a m) := ⟨calm_load P a m⟩
instance i_calm_store (a : Addr) (v : Value) (m : Mode) : IsCalm P (store a v m) := ⟨calm_store P a v m⟩
instance i_calm_shape (a : Nat) : IsCalm P (shape a) := ⟨calm_shape P a⟩
instance i_calm_freeze (a : Addr) (n : Nat) : IsCalm P (freeze a n) := ⟨calm_freeze P a n⟩
instance i_calm_frozen (a : Addr) : IsCalm P (frozen a) := ⟨calm_frozen P a⟩
instance i_calm_choose (q : Question) : IsCalm P (choose q) := ⟨calm_choose P q⟩
instance i_calm_noRoom  : IsCalm P (mark .noRoom) := ⟨calm_noRoom P ⟩
instance i_calm_program  : IsCalm P (program) := ⟨calm_program P ⟩
instance i_calm_env  : IsCalm P (sys .env) := ⟨calm_env P ⟩
instance i_calm_stuck {α : Type} (s : String) : IsCalm P ((stuck s : Sem α)) := ⟨calm_stuck P _ s⟩
instance i_calm_noEntry {α : Type} (s : String) : IsCalm P ((unsupported (.noEntry s) : Sem α)) := ⟨calm_noEntry P _ s⟩
instance i_calm_unsafeP {α : Type} (s : String) : IsCalm P ((unsupported (.unsafePointer s) : Sem α)) := ⟨calm_unsafeP P _ s⟩
instance i_calm_resource {α : Type} (s : String) : IsCalm P ((unsupported (.resourceLimit s) : Sem α)) := ⟨calm_resource P _ s⟩
instance i_calm_observed {α : Type} : IsCalm P ((unsupported .addressObserved : Sem α)) := ⟨calm_observed P _ ⟩
instance i_calm_extern {α : Type} (s : String) : IsCalm P ((unsupported (.extern s) : Sem α)) := ⟨calm_extern P _ s⟩
instance i_calm_goPanic {α : Type} (v : Value) : IsCalm P ((goPanic v : Sem α)) := ⟨calm_goPanic P _ v⟩
theorem c_askRoom (n : Nat) : CalmT P (askRoom n) := by
 unfold askRoom
 exact ac P
instance i_c_askRoom (n : Nat) : IsCalm P (askRoom n) := ⟨c_askRoom P n⟩
theorem c_viewAt (r : Nat) : CalmT P (viewAt r) := by
 unfold viewAt
 exact ac P
instance i_c_viewAt (r : Nat) : IsCalm P (viewAt r) := ⟨c_viewAt P r⟩
theorem c_numberAt (r : Nat) : CalmT P (numberAt r) := by
 unfold numberAt
 exact ac P
instance i_c_numberAt (r : Nat) : IsCalm P (numberAt r) := ⟨c_numberAt P r⟩
theorem c_cellsIn (r : Nat) : CalmT P (cellsIn r) := by
 unfold cellsIn
 exact ac P
instance i_c_cellsIn (r : Nat) : IsCalm P (cellsIn r) := ⟨c_cellsIn P r⟩
theorem c_asNumber (a : Addr) (l : Bool) : CalmT P (asNumber a l) := by
 unfold asNumber
 exact ac P
instance i_c_asNumber (a : Addr) (l : Bool) : IsCalm P (asNumber a l) := ⟨c_asNumber P a l⟩
theorem c_behindNumber (a : Addr) : CalmT P (behindNumber a) := by
 unfold behindNumber
 exact ac P
instance i_c_behindNumber (a : Addr) : IsCalm P (behindNumber a) := ⟨c_behindNumber P a⟩
theorem c_backFromNumber (a : Addr) : CalmT P (backFromNumber a) := by
 unfold backFromNumber
 exact ac P
instance i_c_backFromNumber (a : Addr) : IsCalm P (backFromNumber a) := ⟨c_backFromNumber P a⟩
theorem c_noView (a : Addr) : CalmT P (noView a) := by
 unfold noView
 exact ac P
instance i_c_noView (a : Addr) : IsCalm P (noView a) := ⟨c_noView P a⟩
theorem c_markStringish (a : Addr) : CalmT P (markStringish a) := by
 unfold markStringish
 exact ac P
instance i_c_markStringish (a : Addr) : IsCalm P (markStringish a) := ⟨c_markStringish P a⟩
theorem c_stringish (a : Addr) : CalmT P (stringish a) := by
 unfold stringish
 exact ac P
instance i_c_stringish (a : Addr) : IsCalm P (stringish a) := ⟨c_stringish P a⟩
theorem c_mayBeOne (a b : Addr) : CalmT P (mayBeOne a b) := by
 unfold mayBeOne
 exact ac P
instance i_c_mayBeOne (a b : Addr) : IsCalm P (mayBeOne a b) := ⟨c_mayBeOne P a b⟩
theorem c_sameAddr (a b : Addr) : CalmT P (sameAddr a b) := by
 unfold sameAddr
 exact ac P
instance i_c_sameAddr (a b : Addr) : IsCalm P (sameAddr a b) := ⟨c_sameAddr P a b⟩
theorem c_samePointer (a b : Option Addr) : CalmT P (samePointer a b) := by
 unfold samePointer
 exact ac P
instance i_c_samePointer (a b : Option Addr) : IsCalm P (samePointer a b) := ⟨c_samePointer P a b⟩
theorem c_typeInfo (t : TypeId) : CalmT P (typeInfo t) := by
 unfold typeInfo
 exact ac P
instance i_c_typeInfo (t : TypeId) : IsCalm P (typeInfo t) := ⟨c_typeInfo P t⟩
theorem c_underlying (t : TypeId) : CalmT P (underlying t) := by
 unfold underlying
 exact ac P
instance i_c_underlying (t : TypeId) : IsCalm P (underlying t) := ⟨c_underlying P t⟩
theorem c_cutType (t : String) : CalmT P (cutType t) := by
 unfold cutType
 exact ac P
instance i_c_cutType (t : String) : IsCalm P (cutType t) := ⟨c_cutType P t⟩
theorem c_globalAddr (t : String) : CalmT P (globalAddr t) := by
 unfold globalAddr
 exact ac P
instance i_c_globalAddr (t : String) : IsCalm P (globalAddr t) := ⟨c_globalAddr P t⟩
theorem c_typeStr (t : TypeId) : CalmT P (typeStr t) := by
 unfold typeStr
 exact ac P
instance i_c_typeStr (t : TypeId) : IsCalm P (typeStr t) := ⟨c_typeStr P t⟩
theorem c_zeroValue (t : TypeId) : CalmT P (zeroValue t) := by
 unfold zeroValue
 exact ac P
instance i_c_zeroValue (t : TypeId) : IsCalm P (zeroValue t) := ⟨c_zeroValue P t⟩
theorem c_sizeOf (t : TypeId) : CalmT P (sizeOf t) := by
 unfold Go.sizeOf
 exact ac P
instance i_c_sizeOf (t : TypeId) : IsCalm P (sizeOf t) := ⟨c_sizeOf P t⟩
theorem c_isAgg (t : TypeId) : CalmT P (isAgg t) := by
 unfold isAgg
 exact ac P
instance i_c_isAgg (t : TypeId) : IsCalm P (isAgg t) := ⟨c_isAgg P t⟩
theorem c_loadCellsFrom (a : Addr) : ∀ (n i : Nat) (acc : Array Value), CalmT P (loadCellsFrom a i n acc)
 | 0, _, _ => trivial
 | n + 1, i, acc => by unfold loadCellsFrom; exact calmT_bind (calm_load P _ _) fun _ => c_loadCellsFrom a n (i + 1) _
theorem c_loadCells (a : Addr) (n : Nat) : CalmT P (loadCells a n) := c_loadCellsFrom P a n 0 #[]
theorem c_storeCells (a : Addr) : ∀ (vs : List Value) (i : Nat), CalmT P (storeCells a vs i)
 | [], _ => trivial
 | v :: vs, i => by unfold storeCells; exact calmT_bind (calm_store P _ _ _) fun _ => c_storeCells a vs (i + 1)
instance i_c_loadCells (a : Addr) (n : Nat) : IsCalm P (loadCells a n) := ⟨c_loadCells P a n⟩
instance i_c_storeCells (a : Addr) (l : List Value) (i : Nat) : IsCalm P (storeCells a l i) := ⟨c_storeCells P a l i⟩
theorem c_loadVar (t : TypeId) (a : Addr) : CalmT P (loadVar t a) := by
 unfold loadVar
 exact ac P
instance i_c_loadVar (t : TypeId) (a : Addr) : IsCalm P (loadVar t a) := ⟨c_loadVar P t a⟩
theorem c_storeVar (t : TypeId) (a : Addr) (v : Value) : CalmT P (storeVar t a v) := by
 unfold storeVar
 exact ac P
instance i_c_storeVar (t : TypeId) (a : Addr) (v : Value) : IsCalm P (storeVar t a v) := ⟨c_storeVar P t a v⟩
theorem c_newRow (t : TypeId) (a : Array Value) : CalmT P (newRow t a) := by
 unfold newRow
 exact ac P
instance i_c_newRow (t : TypeId) (a : Array Value) : IsCalm P (newRow t a) := ⟨c_newRow P t a⟩
theorem c_newVar (t : TypeId) (a : Value) : CalmT P (newVar t a) := by
 unfold newVar
 exact ac P
instance i_c_newVar (t : TypeId) (a : Value) : IsCalm P (newVar t a) := ⟨c_newVar P t a⟩
theorem c_elemOf (t : TypeId) : CalmT P (elemOf t) := by
 unfold elemOf
 exact ac P
instance i_c_elemOf (t : TypeId) : IsCalm P (elemOf t) := ⟨c_elemOf P t⟩
theorem c_part (t : TypeId) (a : Array Value) (o : Nat) : CalmT P (part t a o) := by
 unfold part
 exact ac P
instance i_c_part (t : TypeId) (a : Array Value) (o : Nat) : IsCalm P (part t a o) := ⟨c_part P t a o⟩
theorem c_panicString {α : Type} (m : String) : CalmT P (panicString m : Sem α) := by
 unfold panicString
 exact ac P
theorem c_runtimePanic {α : Type} (e : RuntimeError) : CalmT P (runtimePanic e : Sem α) := by
 unfold runtimePanic
 exact ac P
instance i_c_panicString {α : Type} (m : String) : IsCalm P ((panicString m : Sem α)) := ⟨c_panicString P m⟩
instance i_c_runtimePanic {α : Type} (m : RuntimeError) : IsCalm P ((runtimePanic m : Sem α)) := ⟨c_runtimePanic P m⟩
theorem c_boundsPanic {α : Type} (k : IntKind) (x y : Int) (c : BoundsCode) : CalmT P (boundsPanic k x y c : Sem α) := by
 unfold boundsPanic
 exact ac P
instance i_c_boundsPanic {α : Type} (k : IntKind) (x y : Int) (c : BoundsCode) : IsCalm P ((boundsPanic k x y c : Sem α)) := ⟨c_boundsPanic P k x y c⟩
theorem c_asIntOf (v : Value) : CalmT P (asIntOf v) := by
 unfold asIntOf
 exact ac P
instance i_c_asIntOf (v : Value) : IsCalm P (asIntOf v) := ⟨c_asIntOf P v⟩
theorem c_asInt (v : Value) : CalmT P (asInt v) := by
 unfold asInt
 exact ac P
instance i_c_asInt (v : Value) : IsCalm P (asInt v) := ⟨c_asInt P v⟩
theorem c_asBool (v : Value) : CalmT P (asBool v) := by
 unfold asBool
 exact ac P
instance i_c_asBool (v : Value) : IsCalm P (asBool v) := ⟨c_asBool P v⟩
theorem c_asString (v : Value) : CalmT P (asString v) := by
 unfold asString
 exact ac P
instance i_c_asString (v : Value) : IsCalm P (asString v) := ⟨c_asString P v⟩
theorem c_asAgg (v : Value) : CalmT P (asAgg v) := by
 unfold asAgg
 exact ac P
instance i_c_asAgg (v : Value) : IsCalm P (asAgg v) := ⟨c_asAgg P v⟩
theorem c_asAddr (v : Value) : CalmT P (asAddr v) := by
 unfold asAddr
 exact ac P
instance i_c_asAddr (v : Value) : IsCalm P (asAddr v) := ⟨c_asAddr P v⟩
theorem c_byteOf (a : Addr) : CalmT P (byteOf a) := by
 unfold byteOf
 exact ac P
instance i_c_byteOf (a : Addr) : IsCalm P (byteOf a) := ⟨c_byteOf P a⟩
theorem c_partAt (a : Addr) (n m : Nat) : CalmT P (partAt a n m) := by
 unfold partAt
 exact ac P
instance i_c_partAt (a : Addr) (n m : Nat) : IsCalm P (partAt a n m) := ⟨c_partAt P a n m⟩
theorem c_fieldPlace (a : Addr) (f : Field) : CalmT P (fieldPlace a f) := by
 unfold fieldPlace
 exact ac P
instance i_c_fieldPlace (a : Addr) (f : Field) : IsCalm P (fieldPlace a f) := ⟨c_fieldPlace P a f⟩
theorem c_Instr_sureAddr (v : Value) : CalmT P (Instr.sureAddr v) := by
 unfold Instr.sureAddr
 exact ac P
instance i_c_Instr_sureAddr (v : Value) : IsCalm P (Instr.sureAddr v) := ⟨c_Instr_sureAddr P v⟩
theorem c_Instr_loadAt (t : TypeId) (v : Value) : CalmT P (Instr.loadAt t v) := by
 unfold Instr.loadAt
 exact ac P
instance i_c_Instr_loadAt (t : TypeId) (v : Value) : IsCalm P (Instr.loadAt t v) := ⟨c_Instr_loadAt P t v⟩
theorem c_Instr_storeAt (t : TypeId) (v x : Value) : CalmT P (Instr.storeAt t v x) := by
 unfold Instr.storeAt
 exact ac P
instance i_c_Instr_storeAt (t : TypeId) (v x : Value) : IsCalm P (Instr.storeAt t v x) := ⟨c_Instr_storeAt P t v x⟩
theorem c_Instr_fieldAt (t : TypeId) (v : Value) (x : Nat) : CalmT P (Instr.fieldAt t v x) := by
 unfold Instr.fieldAt
 exact ac P
instance i_c_Instr_fieldAt (t : TypeId) (v : Value) (x : Nat) : IsCalm P (Instr.fieldAt t v x) := ⟨c_Instr_fieldAt P t v x⟩
theorem c_Instr_indexAt (t : TypeId) (v x : Value) : CalmT P (Instr.indexAt t v x) := by
 unfold Instr.indexAt
 exact ac P
instance i_c_Instr_indexAt (t : TypeId) (v x : Value) : IsCalm P (Instr.indexAt t v x) := ⟨c_Instr_indexAt P t v x⟩
theorem c_Instr_sliceBound (x : Value) (y : Nat) (c : BoundsCode) : CalmT P (Instr.sliceBound x y c) := by
 unfold Instr.sliceBound
 exact ac P
instance i_c_Instr_sliceBound (x : Value) (y : Nat) (c : BoundsCode) : IsCalm P (Instr.sliceBound x y c) := ⟨c_Instr_sliceBound P x y c⟩
theorem c_Instr_sliceBounds (s : Bool) (l c : Nat) (x y z : Option Value) : CalmT P (Instr.sliceBounds s l c x y z) := by
 unfold Instr.sliceBounds
 exact ac P
instance i_c_Instr_sliceBounds (s : Bool) (l c : Nat) (x y z : Option Value) : IsCalm P (Instr.sliceBounds s l c x y z) := ⟨c_Instr_sliceBounds P s l c x y z⟩
theorem c_Instr_slice (t : TypeId) (x : Value) (l h m : Option Value) : CalmT P (Instr.slice t x l h m) := by
 unfold Instr.slice
 exact ac P
instance i_c_Instr_slice (t : TypeId) (x : Value) (l h m : Option Value) : IsCalm P (Instr.slice t x l h m) := ⟨c_Instr_slice P t x l h m⟩
theorem c_Instr_sliceAt (t : TypeId) (x : Value) (l h m : Option Value) : CalmT P (Instr.sliceAt t x l h m) := by
 unfold Instr.sliceAt
 exact ac P
instance i_c_Instr_sliceAt (t : TypeId) (x : Value) (l h m : Option Value) : IsCalm P (Instr.sliceAt t x l h m) := ⟨c_Instr_sliceAt P t x l h m⟩
theorem c_Instr_arrayAt (t : TypeId) (x : Value) : CalmT P (Instr.arrayAt t x) := by
 unfold Instr.arrayAt
 exact ac P
instance i_c_Instr_arrayAt (t : TypeId) (x : Value) : IsCalm P (Instr.arrayAt t x) := ⟨c_Instr_arrayAt P t x⟩
theorem c_Instr_alloc (t : TypeId) (b : Bool) (x : Value) : CalmT P (Instr.alloc t b x) := by
 unfold Instr.alloc
 exact ac P
instance i_c_Instr_alloc (t : TypeId) (b : Bool) (x : Value) : IsCalm P (Instr.alloc t b x) := ⟨c_Instr_alloc P t b x⟩
theorem c_Instr_box (t : TypeId) (x : Value) : CalmT P (Instr.box t x) := by
 unfold Instr.box
 exact ac P
instance i_c_Instr_box (t : TypeId) (x : Value) : IsCalm P (Instr.box t x) := ⟨c_Instr_box P t x⟩
theorem c_Instr_build (t : TypeId) (x : Array (Nat × Value)) : CalmT P (Instr.build t x) := by
 unfold Instr.build
 exact ac P
instance i_c_Instr_build (t : TypeId) (x : Array (Nat × Value)) : IsCalm P (Instr.build t x) := ⟨c_Instr_build P t x⟩
theorem c_Instr_buildSlice (t : TypeId) (n : Nat) (x : Array (Nat × Value)) : CalmT P (Instr.buildSlice t n x) := by
 unfold Instr.buildSlice
 exact ac P
instance i_c_Instr_buildSlice (t : TypeId) (n : Nat) (x : Array (Nat × Value)) : IsCalm P (Instr.buildSlice t n x) := ⟨c_Instr_buildSlice P t n x⟩
theorem c_Instr_entry (x : Value) : CalmT P (Instr.entry x) := by
 unfold Instr.entry
 exact ac P
instance i_c_Instr_entry (x : Value) : IsCalm P (Instr.entry x) := ⟨c_Instr_entry P x⟩
theorem c_Instr_panicnil  : CalmT P (Instr.panicnil) := by
 unfold Instr.panicnil
 exact ac P
instance i_c_Instr_panicnil  : IsCalm P (Instr.panicnil) := ⟨c_Instr_panicnil P ⟩
theorem c_Instr_panic (x : Value) : CalmT P (Instr.panic x) := by
 unfold Instr.panic
 exact ac P
instance i_c_Instr_panic (x : Value) : IsCalm P (Instr.panic x) := ⟨c_Instr_panic P x⟩
theorem c_Instr_extract (x : Value) (n : Nat) : CalmT P (Instr.extract x n) := by
 unfold Instr.extract
 exact ac P
instance i_c_Instr_extract (x : Value) (n : Nat) : IsCalm P (Instr.extract x n) := ⟨c_Instr_extract P x n⟩
theorem c_Instr_field (t : TypeId) (x : Value) (n : Nat) : CalmT P (Instr.field t x n) := by
 unfold Instr.field
 exact ac P
instance i_c_Instr_field (t : TypeId) (x : Value) (n : Nat) : IsCalm P (Instr.field t x n) := ⟨c_Instr_field P t x n⟩
theorem c_Instr_index (t : TypeId) (x y : Value) : CalmT P (Instr.index t x y) := by
 unfold Instr.index
 exact ac P
instance i_c_Instr_index (t : TypeId) (x y : Value) : IsCalm P (Instr.index t x y) := ⟨c_Instr_index P t x y⟩
theorem c_Op_intArith (o : BinOp) (k : IntKind) (x y : Int) : CalmT P (Op.intArith o k x y) := by
 unfold Op.intArith
 exact ac P
instance i_c_Op_intArith (o : BinOp) (k : IntKind) (x y : Int) : IsCalm P (Op.intArith o k x y) := ⟨c_Op_intArith P o k x y⟩
theorem c_Op_intDiv (o : BinOp) (k : IntKind) (x y : Int) : CalmT P (Op.intDiv o k x y) := by
 unfold Op.intDiv
 exact ac P
instance i_c_Op_intDiv (o : BinOp) (k : IntKind) (x y : Int) : IsCalm P (Op.intDiv o k x y) := ⟨c_Op_intDiv P o k x y⟩
theorem c_Op_intBits (o : BinOp) (k : IntKind) (x y : Int) : CalmT P (Op.intBits o k x y) := by
 unfold Op.intBits
 exact ac P
instance i_c_Op_intBits (o : BinOp) (k : IntKind) (x y : Int) : IsCalm P (Op.intBits o k x y) := ⟨c_Op_intBits P o k x y⟩
theorem c_Op_intCmp (o : BinOp) (x y : Int) : CalmT P (Op.intCmp o x y) := by
 unfold Op.intCmp
 exact ac P
instance i_c_Op_intCmp (o : BinOp) (x y : Int) : IsCalm P (Op.intCmp o x y) := ⟨c_Op_intCmp P o x y⟩
theorem c_Op_shift (o : BinOp) (k : IntKind) (x : Int) (k2 : IntKind) (y : Int) : CalmT P (Op.shift o k x k2 y) := by
 unfold Op.shift
 exact ac P
instance i_c_Op_shift (o : BinOp) (k : IntKind) (x : Int) (k2 : IntKind) (y : Int) : IsCalm P (Op.shift o k x k2 y) := ⟨c_Op_shift P o k x k2 y⟩
theorem c_Op_stringOp (o : BinOp) (x y : ByteArray) : CalmT P (Op.stringOp o x y) := by
 unfold Op.stringOp
 exact ac P
instance i_c_Op_stringOp (o : BinOp) (x y : ByteArray) : IsCalm P (Op.stringOp o x y) := ⟨c_Op_stringOp P o x y⟩
theorem c_Op_unary (o : UnOp) (x : Value) : CalmT P (Op.unary o x) := by
 unfold Op.unary
 exact ac P
instance i_c_Op_unary (o : UnOp) (x : Value) : IsCalm P (Op.unary o x) := ⟨c_Op_unary P o x⟩
theorem c_Op_floatArith (o : BinOp) (k : FloatKind) (x y : Nat) : CalmT P (Op.floatArith o k x y) := by
 unfold Op.floatArith
 exact ac P
instance i_c_Op_floatArith (o : BinOp) (k : FloatKind) (x y : Nat) : IsCalm P (Op.floatArith o k x y) := ⟨c_Op_floatArith P o k x y⟩
theorem c_Op_floatCmp (o : BinOp) (k : FloatKind) (x y : Nat) : CalmT P (Op.floatCmp o k x y) := by
 unfold Op.floatCmp
 exact ac P
instance i_c_Op_floatCmp (o : BinOp) (k : FloatKind) (x y : Nat) : IsCalm P (Op.floatCmp o k x y) := ⟨c_Op_floatCmp P o k x y⟩
theorem c_equalIn : ∀ (d : Nat) (t : TypeId) (x y : Value), CalmT P (Op.equalIn d t x y)
 | 0, _, _, _ => trivial
 | d + 1, t, x, y => by
  have ih := c_equalIn d
  haveI : ∀ t x y, IsCalm P (Op.equalIn d t x y) := fun t x y => ⟨ih t x y⟩
  clear ih
  unfold Op.equalIn
  exact ac P
instance i_equalIn (d : Nat) (t : TypeId) (x y : Value) : IsCalm P (Op.equalIn d t x y) := ⟨c_equalIn P d t x y⟩
theorem c_eqGuardIn : ∀ (d : Nat) (t : TypeId) (x y : Value), CalmT P (Op.eqGuardIn d t x y)
 | 0, _, _, _ => trivial
 | d + 1, t, x, y => by
  have ih := c_eqGuardIn d
  haveI : ∀ t x y, IsCalm P (Op.eqGuardIn d t x y) := fun t x y => ⟨ih t x y⟩
  clear ih
  unfold Op.eqGuardIn
  exact ac P
instance i_eqGuardIn (d : Nat) (t : TypeId) (x y : Value) : IsCalm P (Op.eqGuardIn d t x y) := ⟨c_eqGuardIn P d t x y⟩
theorem c_Op_equal (t : TypeId) (x y : Value) : CalmT P (Op.equal t x y) := by
 unfold Op.equal
 exact ac P
instance i_c_Op_equal (t : TypeId) (x y : Value) : IsCalm P (Op.equal t x y) := ⟨c_Op_equal P t x y⟩
theorem c_eqGuard (o : BinOp) (t : TypeId) (x y : Operand) (a b : Value) : CalmT P (eqGuard o t x y a b) := by
 unfold eqGuard
 exact ac P
instance i_c_eqGuard (o : BinOp) (t : TypeId) (x y : Operand) (a b : Value) : IsCalm P (eqGuard o t x y a b) := ⟨c_eqGuard P o t x y a b⟩
theorem c_Op_twoPlaces (a b : Addr) : CalmT P (Op.twoPlaces a b) := by
 unfold Op.twoPlaces
 exact ac P
instance i_c_Op_twoPlaces (a b : Addr) : IsCalm P (Op.twoPlaces a b) := ⟨c_Op_twoPlaces P a b⟩
theorem c_Op_addrSub (k : IntKind) (a b : Addr) : CalmT P (Op.addrSub k a b) := by
 unfold Op.addrSub
 exact ac P
instance i_c_Op_addrSub (k : IntKind) (a b : Addr) : IsCalm P (Op.addrSub k a b) := ⟨c_Op_addrSub P k a b⟩
theorem c_Op_addrCmp (o : BinOp) (a b : Addr) : CalmT P (Op.addrCmp o a b) := by
 unfold Op.addrCmp
 exact ac P
instance i_c_Op_addrCmp (o : BinOp) (a b : Addr) : IsCalm P (Op.addrCmp o a b) := ⟨c_Op_addrCmp P o a b⟩
theorem c_Op_addrMod (k : IntKind) (a : Addr) (n : Int) : CalmT P (Op.addrMod k a n) := by
 unfold Op.addrMod
 exact ac P
instance i_c_Op_addrMod (k : IntKind) (a : Addr) (n : Int) : IsCalm P (Op.addrMod k a n) := ⟨c_Op_addrMod P k a n⟩
theorem c_Op_Complex_arith (o : BinOp) (k : FloatKind) (x y : Nat) : CalmT P (Op.Complex.arith o k x y) := by
 unfold Op.Complex.arith
 exact ac P
instance i_c_Op_Complex_arith (o : BinOp) (k : FloatKind) (x y : Nat) : IsCalm P (Op.Complex.arith o k x y) := ⟨c_Op_Complex_arith P o k x y⟩
end
end Go.Tp
