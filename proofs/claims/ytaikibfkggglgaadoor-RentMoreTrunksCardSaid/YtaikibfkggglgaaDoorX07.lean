/- A part of the proof of RentMoreTrunks; no conditions of its own. -/
import Derived.Test.YtaikibfkggglgaaDoorX06
set_option maxRecDepth 100000
open Array renaming getElem?_eq_getElem → aG
namespace Go.Tp
def NoOk (P : Program) {α : Type} (s : Sem α) : Prop := ∀ w es a w1 es1, s.runT P w es ≠ (.ok a w1, es1)
def ZeroAt (P : Program) (F : FuncId -> Bool) (t : TypeId) : Prop := ∀ i z, P.info? t = some i -> i.zero = some z -> ∀ R, VR F R z z
section
variable {P : Program} {F : FuncId -> Bool} {R : Rl} {α β α' β' : Type}
theorem sim_noOk {A : Rl -> α -> α' -> Prop} {s : Sem α} (h : NoOk P s) (s' : Sem α') : Sim P F A R s s' := fun _ _ w _ _ es a w1 es1 hr _ => absurd hr (h w es a w1 es1)
theorem noOk_halt (x : Halt) : NoOk P (.halt x : Sem α) := fun w es a w1 es1 h => by cases h
theorem noOk_bind {s : Sem β} {f : β -> Sem α} (h : ∀ b, NoOk P (f b)) : NoOk P (s >>= f) := fun w es a w1 es1 hr => by
 rw [runT_bind] at hr
 split at hr
 ·exact h _ _ _ _ _ _ hr
 ·cases hr
theorem noOk_runtimePanic (e : RuntimeError) : NoOk P (runtimePanic e : Sem α) := by
 unfold runtimePanic
 refine noOk_bind fun p => ?_
 (repeat' first
  | exact noOk_halt _
  | (refine noOk_bind fun _ => ?_)
  | split
  | dsimp only)
theorem noOk_boundsPanic (k : IntKind) (x y : Int) (c : BoundsCode) : NoOk P (boundsPanic k x y c : Sem α) := by
 unfold boundsPanic
 (repeat' first
  | exact noOk_halt _
  | exact noOk_runtimePanic _
  | (refine noOk_bind fun _ => ?_)
  | split
  | dsimp only)
abbrev Same (P : Program) (F : FuncId -> Bool) (R : Rl) (s : Sem α) : Prop := Sim P F (fun _ a a' => a = a') R s s
theorem same_typeInfo (t : TypeId) : Sim P F (fun _ a a' => a = a' /\ P.info? t = some a) R (typeInfo t) (typeInfo t) := by
 unfold typeInfo
 refine sim_bind sim_program fun R1 _ p p' hp => ?_
 rw [hp.1, hp.2]
 cases h : P.info? t with
 | none => exact sim_halt _ _
 | some i => exact sim_pure fun _ _ => ⟨rfl, rfl⟩
theorem same_underlying (t : TypeId) : Sim P F (fun _ a a' => a = a' /\ P.underlying t = some a) R (underlying t) (underlying t) := by
 unfold underlying
 refine sim_bind sim_program fun R1 _ p p' hp => ?_
 rw [hp.1, hp.2]
 cases h : P.underlying t with
 | none => exact sim_halt _ _
 | some i => exact sim_pure fun _ _ => ⟨rfl, rfl⟩
theorem sim_zeroValue {t : TypeId} (hz : ZeroAt P F t) : Sim P F (fun R v v' => VR F R v v' /\ v = v') R (zeroValue t) (zeroValue t) := by
 unfold zeroValue
 refine sim_bind (same_typeInfo t) fun R1 _ i i' hi => ?_
 obtain ⟨rfl, hi⟩ := hi
 cases h : i.zero with
 | none => exact sim_halt _ _
 | some z => exact sim_pure fun R2 _ => ⟨hz i z hi h R2, rfl⟩
theorem same_sizeOf (t : TypeId) : Same P F R (sizeOf t) := by
 unfold sizeOf
 refine sim_bind (same_typeInfo t) fun R1 _ i i' hi => ?_
 obtain ⟨rfl, _⟩ := hi
 exact sim_pure fun _ _ => rfl
theorem same_isAgg (t : TypeId) : Same P F R (isAgg t) := by
 unfold isAgg
 refine sim_bind (same_underlying t) fun R1 _ i i' hi => ?_
 obtain ⟨rfl, _⟩ := hi
 split <;> exact sim_pure fun _ _ => rfl
theorem AR.add {a a' : Addr} (h : AR R a a') (n : Nat) : AR R (a.add n) (a'.add n) := by
 cases h with
 | @mk b b' o s hb =>
  unfold Addr.add
  split <;> exact .mk _ _ hb
theorem sim_loadCellsFrom {a a' : Addr} (h : AR R a a') : ∀ (n i : Nat) (R' : Rl), R.le R' -> ∀ {c c' : Array Value}, VRs F R' c c' -> Sim P F (fun R v v' => VRs F R v v') R' (loadCellsFrom a i n c) (loadCellsFrom a' i n c')
 | 0, _, R', _, _, _, hc => sim_pure fun _ hl => hc.mono hl
 | n + 1, i, R', hR, c, c', hc => by
  unfold loadCellsFrom
  refine sim_bind (sim_load ((h.mono hR).add i) .plain (by decide)) fun R1 hl v v' hv => ?_
  exact sim_loadCellsFrom h n (i + 1) R1 (hR.trans hl) ((hc.mono hl).push hv)
theorem sim_loadCells {a a' : Addr} (h : AR R a a') (n : Nat) : Sim P F (fun R v v' => VRs F R v v') R (loadCells a n) (loadCells a' n) :=
 sim_loadCellsFrom h n 0 R (.refl _) .nil
inductive VRl (F : FuncId -> Bool) (R : Rl) : List Value -> List Value -> Prop
 | nil : VRl F R [] []
 | cons {v v' : Value} {l l' : List Value} : VR F R v v' -> VRl F R l l' -> VRl F R (v :: l) (v' :: l')
theorem VRl.mono {R' : Rl} (h : R.le R') {l l' : List Value} (x : VRl F R l l') : VRl F R' l l' := by
 induction x with
 | nil => exact .nil
 | cons hv _ ih => exact .cons (hv.mono h) ih
theorem VRl.of : ∀ {l l' : List Value}, l.length = l'.length -> (∀ (i : Nat) (v v' : Value), l[i]? = some v -> l'[i]? = some v' -> VR F R v v') -> VRl F R l l'
 | [], [], _, _ => .nil
 | [], _ :: _, h, _ => by cases h
 | _ :: _, [], h, _ => by cases h
 | v :: l, v' :: l', h, hg => .cons (hg 0 _ _ rfl rfl) (VRl.of (by simpa using h) fun i x x' h1 h2 => hg (i + 1) x x' (by simpa using h1) (by simpa using h2))
theorem VRs.toList {c c' : Array Value} (h : VRs F R c c') : VRl F R c.toList c'.toList :=
 VRl.of (by simpa using h.size) fun i v v' h1 h2 => h.get i v v' (by simpa using h1) (by simpa using h2)
theorem sim_storeCells {a a' : Addr} (h : AR R a a') : ∀ (l l' : List Value) (i : Nat) (R' : Rl), R.le R' -> VRl F R' l l' -> Sim P F (fun _ _ _ => True) R' (storeCells a l i) (storeCells a' l' i)
 | _, _, _, _, _, .nil => sim_pure fun _ _ => trivial
 | _, _, i, R', hR, .cons hv hl => by
  unfold storeCells
  refine sim_bind (sim_store ((h.mono hR).add i) hv .plain (by decide)) fun R1 hl1 _ _ _ => ?_
  exact sim_storeCells h _ _ (i + 1) R1 (hR.trans hl1) (hl.mono hl1)
theorem sim_sureAddr {v v' : Value} (h : VR F R v v') : Sim P F (fun R x x' => AR R x x') R (Instr.sureAddr v) (Instr.sureAddr v') := by
 cases h with
 | pointer ha => exact sim_pure fun _ hl => ha.mono hl
 | _ => exact sim_halt _ _
theorem sim_noView {a a' : Addr} (h : AR R a a') : Sim P F (fun _ _ _ => True) R (noView a) (noView a') := by
 cases h with
 | @mk b b' o s hb =>
 unfold noView
 refine sim_bind (sim_viewAt hb) fun R1 _ x x' hx => ?_
 rw [hx.1, hx.2]
 exact sim_pure fun _ _ => trivial
theorem sim_byteOf {a a' : Addr} (h : AR R a a') : Sim P F (fun _ x x' => x = x') R (byteOf a) (byteOf a') := by
 have ha := h
 cases h with
 | @mk b b' o s hb =>
 unfold byteOf
 cases s with
 | some n => exact sim_pure fun _ _ => rfl
 | none =>
  dsimp only
  refine sim_bind sim_program fun R1 h1 p p' hp => ?_
  rw [hp.1, hp.2]
  refine sim_bind (sim_noView (ha.mono h1)) fun R2 h2 _ _ _ => ?_
  refine sim_bind (sim_shape ((h1.trans h2).rel _ _ hb)) fun R3 h3 x x' hx => ?_
  obtain rfl := hx
  cases x with
  | none => exact sim_halt _ _
  | some y =>
   obtain ⟨e, m⟩ := y
   dsimp only
   split
   ·exact sim_pure fun _ _ => rfl
   ·split
    ·exact sim_pure fun _ _ => rfl
    ·exact sim_halt _ _
theorem sim_partAt {a a' : Addr} (h : AR R a a') (n m : Nat) : Sim P F (fun R x x' => AR R x x') R (partAt a n m) (partAt a' n m) := by
 have ha := h
 cases h with
 | @mk b b' o s hb =>
 unfold partAt
 refine sim_bind (sim_byteOf ha) fun R1 h1 x x' hx => ?_
 obtain rfl := hx
 refine sim_bind (sim_byteOf (.mk (o + n) none (h1.rel _ _ hb))) fun R2 h2 y y' hy => ?_
 obtain rfl := hy
 refine sim_pure fun R3 h3 => ?_
 have := (h1.trans (h2.trans h3)).rel _ _ hb
 split <;> exact .mk _ _ this
theorem sim_fieldPlace {a a' : Addr} (h : AR R a a') (f : Field) : Sim P F (fun R x x' => AR R x x') R (fieldPlace a f) (fieldPlace a' f) := by
 unfold fieldPlace
 refine sim_bind (same_sizeOf f.type) fun R1 h1 n n' hn => ?_
 obtain rfl := hn
 split
 ·exact sim_partAt (h.mono h1) _ _
 ·exact sim_pure fun R2 h2 => ((h.mono h1).mono h2).add _
theorem sim_fieldAt {v v' : Value} (h : VR F R v v') (t : TypeId) (i : Nat) : Sim P F (fun R v v' => VR F R v v') R (Instr.fieldAt t v i) (Instr.fieldAt t v' i) := by
 unfold Instr.fieldAt
 refine sim_bind (same_underlying t) fun R1 h1 d d' hd => ?_
 obtain ⟨rfl, _⟩ := hd
 split
 ·split
  ·refine sim_bind (sim_sureAddr (h.mono h1)) fun R2 h2 a a' ha => ?_
   refine sim_bind (sim_fieldPlace ha _) fun R3 h3 x x' hx => ?_
   exact sim_pure fun _ hl => .pointer (hx.mono hl)
  ·exact sim_halt _ _
 ·exact sim_halt _ _
theorem sim_loadVar {a a' : Addr} (h : AR R a a') (t : TypeId) : Sim P F (fun R v v' => VR F R v v') R (loadVar t a) (loadVar t a') := by
 unfold loadVar
 refine sim_bind (same_isAgg t) fun R1 h1 b b' hb => ?_
 obtain rfl := hb
 split
 ·refine sim_bind (same_sizeOf t) fun R2 h2 n n' hn => ?_
  obtain rfl := hn
  refine sim_bind (sim_loadCells (h.mono (h1.trans h2)) n) fun R3 h3 c c' hc => ?_
  exact sim_pure fun R4 h4 => .agg (hc.mono h4).size (hc.mono h4).get
 ·exact sim_load (h.mono h1) .plain (by decide)
theorem sim_storeVar {a a' : Addr} (h : AR R a a') {v v' : Value} (hv : VR F R v v') (t : TypeId) : Sim P F (fun _ _ _ => True) R (storeVar t a v) (storeVar t a' v') := by
 unfold storeVar
 refine sim_bind (same_sizeOf t) fun R1 h1 n n' hn => ?_
 obtain rfl := hn
 rw [<- hv.cells.size]
 split
 ·exact sim_halt _ _
 ·exact sim_storeCells (h.mono h1) _ _ 0 R1 (.refl _) (hv.cells.mono h1).toList
theorem sim_newRow {c c' : Array Value} (h : VRs F R c c') (t : TypeId) : Sim P F (fun R a a' => AR R a a') R (newRow t c) (newRow t c') := by
 unfold newRow
 refine sim_bind (sim_newCells h t) fun R1 h1 n n' hn => ?_
 exact sim_pure fun R2 h2 => .mk 0 none (h2.rel _ _ hn)
theorem sim_newVar {v v' : Value} (h : VR F R v v') (t : TypeId) : Sim P F (fun R a a' => AR R a a') R (newVar t v) (newVar t v') := sim_newRow h.cells t
theorem sim_asIntOf {v v' : Value} (h : VR F R v v') : Sim P F (fun _ x x' => x = x' /\ v = .int x.1 x.2 /\ v' = .int x.1 x.2) R (asIntOf v) (asIntOf v') := by
 cases h with
 | int k n => exact sim_pure fun _ _ => ⟨rfl, rfl, rfl⟩
 | _ => exact sim_halt _ _
theorem sim_asInt {v v' : Value} (h : VR F R v v') : Sim P F (fun _ x x' => x = x') R (asInt v) (asInt v') := by
 unfold asInt
 refine sim_bind (sim_asIntOf h) fun R1 _ x x' hx => ?_
 rw [hx.1]
 exact sim_pure fun _ _ => rfl
theorem sim_asBool {v v' : Value} (h : VR F R v v') : Sim P F (fun _ x x' => x = x') R (asBool v) (asBool v') := by
 cases h with
 | bool b => exact sim_pure fun _ _ => rfl
 | _ => exact sim_halt _ _
theorem sim_asAddr {v v' : Value} (h : VR F R v v') : Sim P F (fun R x x' => AR R x x') R (asAddr v) (asAddr v') := by
 cases h with
 | pointer ha => exact sim_pure fun _ hl => ha.mono hl
 | nilPointer =>
  show Sim P F _ R (runtimePanic .nilDeref : Sem Addr) (runtimePanic .nilDeref : Sem Addr)
  exact sim_noOk (noOk_runtimePanic _) _
 | _ => exact sim_halt _ _
theorem sim_loadAt {v v' : Value} (h : VR F R v v') (t : TypeId) : Sim P F (fun R v v' => VR F R v v') R (Instr.loadAt t v) (Instr.loadAt t v') :=
 sim_bind (sim_sureAddr h) fun _ _ _ _ ha => sim_loadVar ha t
theorem sim_storeAt {v v' x x' : Value} (h : VR F R v v') (hx : VR F R x x') (t : TypeId) : Sim P F (fun _ _ _ => True) R (Instr.storeAt t v x) (Instr.storeAt t v' x') :=
 sim_bind (sim_sureAddr h) fun _ hl _ _ ha => sim_storeVar ha (hx.mono hl) t
theorem sim_box {v v' : Value} (h : VR F R v v') (t : TypeId) : Sim P F (fun R v v' => VR F R v v') R (Instr.box t v) (Instr.box t v') :=
 sim_bind (sim_newVar h t) fun _ _ _ _ ha => sim_pure fun _ hl => .pointer (ha.mono hl)
theorem sim_alloc {t : TypeId} (hz : ZeroAt P F t) : Sim P F (fun R v v' => VR F R v v') R (Instr.alloc t true (.tuple #[])) (Instr.alloc t true (.tuple #[])) :=
 sim_bind (sim_zeroValue hz) fun _ _ _ _ hv => sim_bind (sim_newVar hv.1 t) fun _ _ _ _ ha => sim_pure fun _ hl => .pointer (ha.mono hl)
theorem sim_extract {v v' : Value} (h : VR F R v v') (i : Nat) : Sim P F (fun R v v' => VR F R v v') R (Instr.extract v i) (Instr.extract v' i) := by
 cases h with
 | @tuple c c' h1 h2 =>
  unfold Instr.extract
  dsimp only
  cases e : c[i]? with
  | none => exact sim_halt _ _
  | some x =>
   obtain ⟨x', e', hx⟩ := VRs.hit ⟨h1, h2⟩ e
   rw [e']
   exact sim_pure fun _ hl => hx.mono hl
 | _ => exact sim_halt _ _
theorem sim_makeFunc (f : FuncId) (hf : F f = true) {a a' c c' : Array Value} (ha : VRs F R a a') (hc : VRs F R c c') : Sim P F (fun R v v' => VR F R v v') R (Instr.makeFunc (.func f) a c) (Instr.makeFunc (.func f) a' c') :=
 sim_pure fun _ hl => .func f hf (ha.mono hl).size (ha.mono hl).get (hc.mono hl).size (hc.mono hl).get
theorem sim_indexAt {v v' x x' : Value} (h : VR F R v v') (hx : VR F R x x') (t : TypeId) : Sim P F (fun R v v' => VR F R v v') R (Instr.indexAt t v x) (Instr.indexAt t v' x') := by
  unfold Instr.indexAt
  refine sim_bind (sim_asIntOf hx) fun R1 h1 ki ki' hk => ?_
  obtain ⟨rfl, _, _⟩ := hk
  obtain ⟨k, i⟩ := ki
  refine sim_bind (same_underlying t) fun R2 h2 d d' hd => ?_
  obtain ⟨rfl, _⟩ := hd
  have tail : ∀ (R3 : Rl), R2.le R3 -> ∀ (o o' : Option Addr) (len : Nat) (elem : TypeId), (o = none /\ o' = none \/ ∃ a a', o = some a /\ o' = some a' /\ AR R3 a a') ->
      Sim P F (fun R v v' => VR F R v v') R3
        (do
          let tiny := len <= 1 && (match <- underlying t with | .array .. => true | _ => false)
          match o with
          | some a =>
            if 0 <= i /\ i < len then pure (.pointer (some (a.add (i.toNat * (<- sizeOf elem)))))
            else if tiny then unsupported (.noEntry "op/indexAddr.an index out of range at an array of length 0 or 1 (ledger 616)")
            else boundsPanic k i len .index
          | none => boundsPanic k i 0 .index)
        (do
          let tiny := len <= 1 && (match <- underlying t with | .array .. => true | _ => false)
          match o' with
          | some a =>
            if 0 <= i /\ i < len then pure (.pointer (some (a.add (i.toNat * (<- sizeOf elem)))))
            else if tiny then unsupported (.noEntry "op/indexAddr.an index out of range at an array of length 0 or 1 (ledger 616)")
            else boundsPanic k i len .index
          | none => boundsPanic k i 0 .index) := by
    intro R3 h3 o o' len elem ho
    refine sim_bind (same_underlying t) fun R4 h4 d2 d2' hd2 => ?_
    obtain ⟨rfl, _⟩ := hd2
    rcases ho with ⟨rfl, rfl⟩ | ⟨a, a', rfl, rfl, ha⟩
    · exact sim_noOk (noOk_boundsPanic _ _ _ _) _
    · dsimp only
      by_cases hin : 0 <= i /\ i < (len : Int)
      · rw [if_pos hin, if_pos hin]
        refine sim_bind (same_sizeOf elem) fun R5 h5 n n' hn => ?_
        obtain rfl := hn
        exact sim_pure fun _ hl => .pointer ((((ha.mono h4).mono h5).mono hl).add _)
      · rw [if_neg hin]
        refine sim_noOk ?_ _
        (repeat' split) <;> first | exact noOk_halt _ | exact noOk_boundsPanic _ _ _ _
  have h' := (h.mono h1).mono h2
  cases d with
  | array len elem =>
    refine sim_bind (sim_sureAddr h') fun R3 h3 a a' ha => ?_
    exact tail R3 h3 (some a) (some a') len elem (.inr ⟨a, a', rfl, rfl, ha⟩)
  | slice elem =>
    cases h' with
    | nilSlice n c => exact tail R2 (.refl _) none none n elem (.inl ⟨rfl, rfl⟩)
    | @slice a a' n c ha => exact tail R2 (.refl _) (some a) (some a') n elem (.inr ⟨a, a', rfl, rfl, ha⟩)
    | _ => exact sim_noOk (noOk_halt _) _
  | _ => exact sim_noOk (noOk_halt _) _
end
section
variable {P : Program} {F : FuncId -> Bool} {R : Rl}
inductive PRl (F : FuncId -> Bool) (R : Rl) : List (Nat × Value) -> List (Nat × Value) -> Prop
 | nil : PRl F R [] []
 | cons (i : Nat) {v v' : Value} {l l' : List (Nat × Value)} : VR F R v v' -> PRl F R l l' -> PRl F R ((i, v) :: l) ((i, v') :: l')
theorem PRl.mono {R' : Rl} (h : R.le R') {l l' : List (Nat × Value)} (x : PRl F R l l') : PRl F R' l l' := by
 induction x with
 | nil => exact .nil
 | cons i hv _ ih => exact .cons i (hv.mono h) ih
theorem set_list {l l' : List Value} (hl : VRl F R l l') (off : Nat) : ∀ (n : Nat) {c c' : Array Value}, VRs F R c c' ->
  VRs F R ((l.zipIdx n).foldl (fun cs x => cs.setIfInBounds (off + x.2) x.1) c) ((l'.zipIdx n).foldl (fun cs x => cs.setIfInBounds (off + x.2) x.1) c') := by
 induction hl with
 | nil => exact fun n c c' h => h
 | cons hv _ ih =>
  intro n c c' h
  simp only [List.zipIdx_cons, List.foldl_cons]
  exact ih (n + 1) (h.set hv _)
theorem set_cells {v v' : Value} (hv : VR F R v v') (off : Nat) {c c' : Array Value} (h : VRs F R c c') :
  VRs F R (v.cells.zipIdx.foldl (fun cs (c, j) => cs.setIfInBounds (off + j) c) c) (v'.cells.zipIdx.foldl (fun cs (c, j) => cs.setIfInBounds (off + j) c) c') := by
 have := set_list hv.cells.toList off 0 h
 rw [<- Array.foldl_toList, <- Array.foldl_toList, Array.toList_zipIdx, Array.toList_zipIdx]
 exact this
theorem fill_sim (place : Nat -> Option (Nat × Nat)) {l l' : List (Nat × Value)} (hl : PRl F R l l') : ∀ {c c' : Array Value}, VRs F R c c' ->
  (Instr.fill place c l = none) \/ ∃ d d', Instr.fill place c l = some d /\ Instr.fill place c' l' = some d' /\ VRs F R d d' := by
 induction hl with
 | nil => exact fun h => .inr ⟨_, _, rfl, rfl, h⟩
 | cons i hv _ ih =>
  intro c c' h
  unfold Instr.fill
  cases place i with
  | none => exact .inl rfl
  | some x =>
   obtain ⟨off, size⟩ := x
   dsimp only
   rw [<- hv.cells.size, <- h.size]
   split
   ·exact .inl rfl
   ·exact ih (set_cells hv off h)
theorem sim_mapSizes (l : List Field) : Sim P F (fun _ x x' => x = x') R (l.mapM fun f => do pure (f.offset, <- sizeOf f.type)) (l.mapM fun f => do pure (f.offset, <- sizeOf f.type)) := by
 induction l generalizing R with
 | nil => exact sim_pure fun _ _ => rfl
 | cons f l ih =>
  rw [List.mapM_cons]
  refine sim_bind (A := fun _ x x' => x = x') ?_ fun R1 h1 x x' hx => ?_
  ·refine sim_bind (same_sizeOf f.type) fun R1 h1 n n' hn => ?_
   obtain rfl := hn
   exact sim_pure fun _ _ => rfl
  ·obtain rfl := hx
   refine sim_bind ih fun R2 h2 y y' hy => ?_
   obtain rfl := hy
   exact sim_pure fun _ _ => rfl
theorem sim_build {t : TypeId} (hz : ZeroAt P F t) {a a' : Array (Nat × Value)} (ha : PRl F R a.toList a'.toList) : Sim P F (fun R v v' => VR F R v v') R (Instr.build t a) (Instr.build t a') := by
 unfold Instr.build
 refine sim_bind (sim_zeroValue hz) fun R1 h1 z z' hzz => ?_
 obtain ⟨hzv, rfl⟩ := hzz
 refine sim_bind (same_underlying t) fun R2 h2 d d' hd => ?_
 obtain ⟨rfl, _⟩ := hd
 cases d with
 | struct fields =>
  dsimp only
  refine sim_bind (A := fun _ x x' => x = x') ?_ fun R3 h3 pl pl' hpl => ?_
  ·rw [Array.mapM_eq_mapM_toList]
   refine sim_bind (sim_mapSizes fields.toList) fun R3 h3 x x' hx => ?_
   obtain rfl := hx
   exact sim_pure fun _ _ => rfl
  ·obtain rfl := hpl
   rcases fill_sim (fun x => pl[x]?) (((ha.mono h1).mono h2).mono h3) (((hzv.mono h2).mono h3).cells) with e | ⟨d, d', e, e', hdd⟩
   ·simp only [e]
    exact sim_noOk (noOk_halt _) _
   ·simp only [e, e']
    exact sim_pure fun _ hl => .agg (hdd.mono hl).size (hdd.mono hl).get
 | array n elem =>
  dsimp only
  refine sim_bind (same_sizeOf elem) fun R3 h3 m m' hm => ?_
  obtain rfl := hm
  rcases fill_sim (fun i => some (i * m, m)) (((ha.mono h1).mono h2).mono h3) (((hzv.mono h2).mono h3).cells) with e | ⟨d, d', e, e', hdd⟩
  ·simp only [e]
   exact sim_noOk (noOk_halt _) _
  ·simp only [e, e']
   exact sim_pure fun _ hl => .agg (hdd.mono hl).size (hdd.mono hl).get
 | _ => exact sim_noOk (noOk_halt _) _
theorem sim_len {t : TypeId} (ht : (∃ e, P.underlying t = some (.slice e)) \/ (∃ n e, P.underlying t = some (.array n e)) \/ P.underlying t = some .string) (ts : Array TypeId) (h0 : ts[0]? = some t) (u : TypeId)
  {v v' : Value} (h : VR F R v v') : Sim P F (fun R v v' => VR F R v v') R (Builtin.len_ ts u #[v]) (Builtin.len_ ts u #[v']) := by
 unfold Builtin.len_
 simp only [h0, List.getElem?_toArray, List.getElem?_cons_zero]
 refine sim_bind (same_underlying t) fun R1 h1 d d' hd => ?_
 obtain ⟨rfl, hd⟩ := hd
 rcases ht with ⟨e, ht⟩ | ⟨n, e, ht⟩ | ht
 ·rw [ht] at hd
  cases hd
  cases h with
  | nilSlice n c => exact sim_pure fun _ _ => .int _ _
  | slice n c _ => exact sim_pure fun _ _ => .int _ _
  | _ => exact sim_noOk (noOk_halt _) _
 ·rw [ht] at hd
  cases hd
  exact sim_pure fun _ _ => .int _ _
 ·rw [ht] at hd
  cases hd
  cases h with
  | string s => exact sim_pure fun _ _ => .int _ _
  | _ => exact sim_noOk (noOk_halt _) _
theorem same_stringOp (o : BinOp) (x y : ByteArray) : Sim P F (fun R v v' => VR F R v v') R (Op.stringOp o x y) (Op.stringOp o x y) := by
 unfold Op.stringOp
 dsimp only
 split <;> first
  | exact sim_pure fun _ _ => .bool _
  | exact sim_halt _ _
  | (split <;> first | exact sim_halt _ _ | exact sim_pure fun _ _ => .string _)
theorem sim_min2 {v v' x x' : Value} (h : VR F R v v') (hx : VR F R x x') : Sim P F (fun R v v' => VR F R v v') R (Builtin.min2 v x) (Builtin.min2 v' x') := by
 cases h with
 | int k n =>
  cases hx with
  | int k' m => exact sim_pure fun _ _ => .int _ _
  | _ => exact sim_noOk (noOk_halt _) _
 | float k n =>
  cases hx with
  | float k' m =>
   unfold Builtin.min2
   dsimp only
   split
   ·refine sim_bind (sim_choose _) fun R1 _ y y' hy => ?_
    obtain rfl := hy
    exact sim_pure fun _ _ => .float _ _
   ·exact sim_pure fun _ _ => .float _ _
   ·exact sim_pure fun _ _ => .float _ _
   ·exact sim_pure fun _ _ => .float _ _
  | _ => exact sim_noOk (noOk_halt _) _
 | string s =>
  cases hx with
  | string s' =>
   unfold Builtin.min2
   dsimp only
   refine sim_bind (same_stringOp _ _ _) fun R1 _ y y' hy => ?_
   refine sim_bind (sim_asBool hy) fun R2 _ b b' hb => ?_
   obtain rfl := hb
   exact sim_pure fun _ _ => .string _
  | _ => exact sim_noOk (noOk_halt _) _
 | pointer _ => exact sim_noOk (noOk_halt _) _
 | _ => cases hx <;> exact sim_noOk (noOk_halt _) _
end
section
variable {P : Program} {F : FuncId -> Bool} {R : Rl}
theorem sim_intArith (o : BinOp) (k : IntKind) (x y : Int) : Sim P F (fun R v v' => VR F R v v') R (Op.intArith o k x y) (Op.intArith o k x y) := by
 unfold Op.intArith
 split <;> first | exact sim_pure fun _ _ => .int _ _ | exact sim_halt _ _
theorem sim_intCmp (o : BinOp) (x y : Int) : Sim P F (fun R v v' => VR F R v v') R (Op.intCmp o x y) (Op.intCmp o x y) := by
 unfold Op.intCmp
 split <;> first | exact sim_pure fun _ _ => .bool _ | exact sim_halt _ _
theorem sim_part {c c' : Array Value} (h : VRs F R c c') (t : TypeId) (o : Nat) : Sim P F (fun R v v' => VR F R v v') R (part t c o) (part t c' o) := by
 unfold part
 refine sim_bind (same_isAgg t) fun R1 h1 b b' hb => ?_
 obtain rfl := hb
 split
 ·refine sim_bind (same_sizeOf t) fun R2 h2 n n' hn => ?_
  obtain rfl := hn
  refine sim_pure fun R3 h3 => ?_
  have hm := ((h.mono h1).mono h2).mono h3
  have hx : VRs F R3 (c.extract o (o + n)) (c'.extract o (o + n)) := by
   refine ⟨by simp [h.size], fun i v v' hv hv' => ?_⟩
   rw [Array.getElem?_extract] at hv hv'
   rw [<- h.size] at hv'
   split at hv
   ·rename_i hlt
    rw [if_pos hlt] at hv'
    exact hm.get _ _ _ hv hv'
   ·cases hv
  exact .agg hx.size hx.get
 ·cases e : c[o]? with
  | none => exact sim_noOk (noOk_halt _) _
  | some x =>
   obtain ⟨x', e', hx⟩ := h.hit e
   rw [e']
   exact sim_pure fun _ hl => (hx.mono h1).mono hl
theorem sim_behindNumber {a a' : Addr} (h : AR R a a') : Sim P F (fun R x x' => AR R x.1 x'.1 /\ x.2 = x'.2) R (behindNumber a) (behindNumber a') := by
 have ha := h
 cases h with
 | @mk b b' o s hb =>
 unfold behindNumber
 refine sim_bind (sim_numberAt hb) fun R1 h1 x x' hx => ?_
 cases hx with
 | none => exact sim_pure fun _ hl => ⟨(ha.mono h1).mono hl, rfl⟩
 | some l hr => exact sim_pure fun _ hl => ⟨hr.mono hl, rfl⟩
theorem sim_asNumber {a a' : Addr} (h : AR R a a') (l : Bool) : Sim P F (fun R v v' => VR F R v v') R (asNumber a l) (asNumber a' l) := by
 unfold asNumber
 refine sim_bind (sim_newNumber h l) fun R1 _ n n' hn => ?_
 exact sim_pure fun _ hl => .pointer (.mk 0 none (hl.rel _ _ hn))
theorem sim_unsafeAdd (ts : Array TypeId) (t : TypeId) {v v' x x' : Value} (h : VR F R v v') (hx : VR F R x x') : Sim P F (fun R v v' => ∃ a a', v = .pointer (some a) /\ v' = .pointer (some a') /\ AR R a a') R (Builtin.unsafeAdd_ ts t #[v, x]) (Builtin.unsafeAdd_ ts t #[v', x']) := by
 have hv := h
 cases h with
 | nilPointer =>
  show Sim P F (fun R (v v' : Value) => ∃ a a', v = .pointer (some a) /\ v' = .pointer (some a') /\ AR R a a') R (asInt x >>= _) (asInt x' >>= _)
  refine sim_bind (sim_asInt hx) fun R1 h1 n n' hn => ?_
  refine sim_noOk ?_ _
  dsimp only
  (repeat' first | exact noOk_halt _ | split)
 | @pointer a a' ha =>
  show Sim P F (fun R (v v' : Value) => ∃ a a', v = .pointer (some a) /\ v' = .pointer (some a') /\ AR R a a') R (asInt x >>= _) (asInt x' >>= _)
  refine sim_bind (sim_asInt hx) fun R1 h1 n n' hn => ?_
  obtain rfl := hn
  have ha1 := ha.mono h1
  cases ha with
  | @mk b b' o s hb =>
  have hb1 := h1.rel _ _ hb
  dsimp only
  split
  ·refine sim_bind (sim_viewAt hb1) fun R2 h2 y y' hy => ?_
   rw [hy.1, hy.2]
   exact sim_pure fun _ hl => ⟨_, _, rfl, rfl, (ha1.mono h2).mono hl⟩
  ·split
   ·exact sim_noOk (noOk_halt _) _
   ·refine sim_bind (sim_shape hb1) fun R2 h2 y y' hy => ?_
    obtain rfl := hy
    cases y with
    | none => exact sim_noOk (noOk_halt _) _
    | some ec =>
     obtain ⟨e, cells⟩ := ec
     dsimp only
     refine sim_bind sim_program fun R3 h3 p p' hp => ?_
     rw [hp.1, hp.2]
     split
     ·exact sim_pure fun _ hl => ⟨_, _, rfl, rfl, .mk _ _ (hl.rel _ _ (h3.rel _ _ (h2.rel _ _ hb1)))⟩
     ·exact sim_noOk (noOk_halt _) _
 | _ => exact sim_noOk (noOk_halt _) _
theorem sim_movedNumber (t : TypeId) {v v' x x' : Value} (h : VR F R v v') (hx : VR F R x x') : Sim P F (fun R v v' => VR F R v v') R (movedNumber t v x) (movedNumber t v' x') := by
 unfold movedNumber
 refine sim_bind (same_underlying t) fun R1 h1 d d' hd => ?_
 obtain ⟨rfl, _⟩ := hd
 dsimp only
 split
 ·exact sim_noOk (noOk_halt _) _
 ·have hv1 := h.mono h1
  have hx1 := hx.mono h1
  cases h with
  | @pointer a a' ha =>
   refine sim_bind (sim_behindNumber (ha.mono h1)) fun R2 h2 y y' hy => ?_
   obtain ⟨z, l⟩ := y
   obtain ⟨z', l'⟩ := y'
   obtain ⟨hz, hl⟩ := hy
   simp only at hz hl
   subst hl
   refine sim_bind (sim_unsafeAdd _ _ (.pointer hz) (hx1.mono h2)) fun R3 h3 q q' hq => ?_
   obtain ⟨p, p', rfl, rfl, hq⟩ := hq
   exact sim_asNumber hq l
  | poison hs => exact sim_noOk (noOk_halt _) _
  | _ => exact sim_mono (sim_unsafeAdd #[] t hv1 hx1) fun _ _ v v' ⟨_, _, e1, e2, ha⟩ => by subst e1 e2; exact .pointer ha
theorem sim_twoPlaces {a a' b b' : Addr} (h : AR R a a') (hx : AR R b b') (hg : ∀ R1, R.le R1 -> ∀ w u, WR P F R1 w u -> (a.block = b.block ↔ a'.block = b'.block) /\ (a.block < P.globals.size ↔ a'.block < P.globals.size)) :
  Sim P F (fun _ x x' => x = x') R (Op.twoPlaces a b) (Op.twoPlaces a' b') := by
 intro R1 hR w u hw
 obtain ⟨h1, h2⟩ := hg R1 hR w u hw
 have key : Sim P F (fun _ x x' => x = x') R1 (Op.twoPlaces a b) (Op.twoPlaces a' b') := by
  unfold Op.twoPlaces
  refine sim_bind sim_program fun R2 hl2 p p' hp => ?_
  rw [hp.1, hp.2]
  have e1 : (a.block != b.block) = (a'.block != b'.block) := by
   by_cases e : a.block = b.block
   ·have := h1.1 e; simp [e, this]
   ·have : a'.block ≠ b'.block := fun x => e (h1.2 x)
    have x1 : (a.block == b.block) = false := by simpa using e
    have x2 : (a'.block == b'.block) = false := by simpa using this
    simp only [bne, x1, x2]
  have e2 : decide (a.block ≥ P.globals.size) = decide (a'.block ≥ P.globals.size) := by
   by_cases e : a.block < P.globals.size
   ·have := h2.1 e; simp [show ¬ P.globals.size <= a.block by omega, show ¬ P.globals.size <= a'.block by omega]
   ·have : ¬ a'.block < P.globals.size := fun x => e (h2.2 x)
    simp [show P.globals.size <= a.block by omega, show P.globals.size <= a'.block by omega]
  rw [e1, e2]
  split
  ·exact sim_noOk (noOk_halt _) _
  ·refine sim_bind (sim_byteOf ((h.mono hR).mono hl2)) fun R3 hl3 x x' hxx => ?_
   obtain rfl := hxx
   refine sim_bind (sim_byteOf (((hx.mono hR).mono hl2).mono hl3)) fun R4 hl4 y y' hyy => ?_
   obtain rfl := hyy
   exact sim_pure fun _ _ => rfl
 exact key R1 (.refl _) w u hw
theorem blocks_iff {a a' b b' : Addr} (h : AR R a a') (hx : AR R b b') : ∀ R1, R.le R1 -> ∀ w u, WR P F R1 w u -> (a.block = b.block ↔ a'.block = b'.block) /\ (a.block < P.globals.size ↔ a'.block < P.globals.size) := by
 intro R1 hR w u hw
 cases h with
 | @mk n n' o s hn =>
 cases hx with
 | @mk m m' o2 s2 hm =>
 have hn1 := hR.rel _ _ hn
 have hm1 := hR.rel _ _ hm
 refine ⟨⟨fun e => ?_, fun e => ?_⟩, ⟨fun e => ?_, fun e => ?_⟩⟩
 ·simp only at e; subst e; exact hw.fn _ _ _ hn1 hm1
 ·simp only at e; subst e; exact hw.inj _ _ _ hn1 hm1
 ·simp only at e ⊢; have := hw.glob _ _ hn1 (.inl e); omega
 ·simp only at e ⊢; have := hw.glob _ _ hn1 (.inr e); omega
theorem sim_addrSub (k : IntKind) {a a' b b' : Addr} (h : AR R a a') (hx : AR R b b') : Sim P F (fun R v v' => VR F R v v') R (Op.addrSub k a b) (Op.addrSub k a' b') := by
 unfold Op.addrSub
 refine sim_bind (sim_twoPlaces h hx (blocks_iff h hx)) fun R1 h1 x x' hxx => ?_
 obtain rfl := hxx
 exact sim_pure fun _ _ => .int _ _
theorem sim_addrCmp (o : BinOp) {a a' b b' : Addr} (h : AR R a a') (hx : AR R b b') : Sim P F (fun R v v' => VR F R v v') R (Op.addrCmp o a b) (Op.addrCmp o a' b') := by
 unfold Op.addrCmp
 refine sim_bind (sim_twoPlaces h hx (blocks_iff h hx)) fun R1 h1 x x' hxx => ?_
 obtain rfl := hxx
 obtain ⟨x, y⟩ := x
 dsimp only
 split <;> first | exact sim_pure fun _ _ => .bool _ | exact sim_noOk (noOk_halt _) _
def intTree (P : Program) : Nat -> TypeId -> Bool
 | 0, _ => false
 | d + 1, t => match P.underlying t with
  | some (.int _) => (match P.info? t with | some i => (match i.desc with | .named n _ => n != "sync.copyChecker" | _ => true) | none => false)
  | some (.array _ e) => intTree P d e
  | some (.struct fs) => fs.all fun f => intTree P d f.type
  | _ => false
def binOk (P : Program) (o : BinOp) (t : TypeId) : Bool := match o with
 | .add | .sub | .lss | .leq | .gtr | .geq => (match P.underlying t with | some (.int _) => true | _ => false)
 | .eql | .neq => intTree P 8 t && !P.eqGuardType P.depth t
 | _ => false
end
section
variable {P : Program} {F : FuncId -> Bool} {R : Rl} {β γ : Type}
theorem sim_listForIn {f g : γ -> β -> Sem (ForInStep β)} : ∀ {l : List γ} {R : Rl}, (∀ R1, R.le R1 -> ∀ x ∈ l, ∀ b, Sim P F (fun _ x x' => x = x') R1 (f x b) (g x b)) -> ∀ (init : β), Sim P F (fun _ x x' => x = x') R (forIn l init f) (forIn l init g)
 | [], R, _, _ => sim_pure fun _ _ => rfl
 | x :: l, R, h, b => by
  rw [List.forIn_cons, List.forIn_cons]
  refine sim_bind (h R (.refl _) x (List.mem_cons_self ..) b) fun R1 h1 s s' hs => ?_
  obtain rfl := hs
  cases s with
  | done c => exact sim_pure fun _ _ => rfl
  | yield c => exact sim_listForIn (fun R2 h2 y hy => h R2 (h1.trans h2) y (List.mem_cons_of_mem _ hy)) c
theorem sim_equalIn : ∀ (d : Nat) (d' : Nat) (t : TypeId), intTree P d t = true -> ∀ (R : Rl) {x x' y y' : Value}, VR F R x x' -> VR F R y y' -> Sim P F (fun _ b b' => b = b') R (Op.equalIn d' t x y) (Op.equalIn d' t x' y')
  | 0, _, _, h, _, _, _, _, _, _, _ => by cases h
  | d + 1, 0, t, _, R, x, x', y, y', hx, hy => sim_noOk (noOk_halt _) _
  | d + 1, d' + 1, t, h, R, x, x', y, y', hx, hy => by
    unfold Op.equalIn
    refine sim_bind (same_underlying t) fun R1 h1 dd dd' hd => ?_
    obtain ⟨rfl, hd⟩ := hd
    unfold intTree at h
    rw [hd] at h
    have hx1 := hx.mono h1
    have hy1 := hy.mono h1
    cases dd with
    | int k =>
      dsimp only at h
      cases hx1 with
      | int k1 n1 =>
        cases hy1 with
        | int k2 n2 =>
          dsimp only
          split
          · exact sim_pure fun _ _ => rfl
          · exact sim_noOk (noOk_halt _) _
        | pointer hb =>
          rcases n1 with (_ | n1) | n1
          · exact sim_pure fun _ _ => rfl
          · exact sim_noOk (noOk_halt _) _
          · exact sim_noOk (noOk_halt _) _
        | _ => exact sim_noOk (noOk_halt _) _
      | pointer ha =>
        cases hy1 with
        | int k2 n2 =>
          rcases n2 with (_ | n2) | n2
          · exact sim_pure fun _ _ => rfl
          · exact sim_noOk (noOk_halt _) _
          · exact sim_noOk (noOk_halt _) _
        | pointer hb =>
          dsimp only
          refine sim_bind (sim_behindNumber ha) fun R2 h2 z z' hz => ?_
          refine sim_bind (sim_behindNumber (hb.mono h2)) fun R3 h3 q q' hq => ?_
          refine sim_bind sim_program fun R4 h4 p p' hp => ?_
          rw [hp.1, hp.2]
          have hz4 := (hz.1.mono h3).mono h4
          have hq4 := hq.1.mono h4
          have hdesc : ∀ R5, R4.le R5 -> Sim P F (fun _ b b' => b = b') R5
              (do
                let .named "sync.copyChecker" _ := (<- typeInfo t).desc | unsupported .addressObserved
                if z.1 == q.1 then pure true else unsupported .addressObserved)
              (do
                let .named "sync.copyChecker" _ := (<- typeInfo t).desc | unsupported .addressObserved
                if z'.1 == q'.1 then pure true else unsupported .addressObserved) := fun R5 h5 => by
            refine sim_bind (same_typeInfo t) fun R6 h6 i i' hi => ?_
            obtain ⟨rfl, hi⟩ := hi
            rw [hi] at h
            refine sim_noOk ?_ _
            split
            · rename_i e
              dsimp only at h
              rw [e] at h
              simp at h
            · exact noOk_halt _
          intro R5 h5 w u hw
          have hiff := blocks_iff hz4 hq4 R5 h5 w u hw
          have e1 : (z.1.block == q.1.block && decide (z.1.block < P.globals.size)) = (z'.1.block == q'.1.block && decide (z'.1.block < P.globals.size)) := by
            by_cases e : z.1.block = q.1.block
            · have e' := hiff.1.1 e
              by_cases g : z.1.block < P.globals.size
              · have g' := hiff.2.1 g
                have x1 : (z.1.block == q.1.block) = true := by simpa using e
                have x2 : (z'.1.block == q'.1.block) = true := by simpa using e'
                rw [x1, x2, decide_eq_true g, decide_eq_true g']
              · have g' : ¬ z'.1.block < P.globals.size := fun x => g (hiff.2.2 x)
                simp [g, g']
            · have e' : z'.1.block ≠ q'.1.block := fun x => e (hiff.1.2 x)
              have x1 : (z.1.block == q.1.block) = false := by simpa using e
              have x2 : (z'.1.block == q'.1.block) = false := by simpa using e'
              rw [x1, x2]; rfl
          rw [e1]
          have key : Sim P F (fun _ b b' => b = b') R5
              (if (z'.1.block == q'.1.block && decide (z'.1.block < P.globals.size)) = true then do return (<- byteOf z.1) == (<- byteOf q.1)
               else do
                let .named "sync.copyChecker" _ := (<- typeInfo t).desc | unsupported .addressObserved
                if z.1 == q.1 then pure true else unsupported .addressObserved)
              (if (z'.1.block == q'.1.block && decide (z'.1.block < P.globals.size)) = true then do return (<- byteOf z'.1) == (<- byteOf q'.1)
               else do
                let .named "sync.copyChecker" _ := (<- typeInfo t).desc | unsupported .addressObserved
                if z'.1 == q'.1 then pure true else unsupported .addressObserved) := by
            split
            · refine sim_bind (sim_byteOf (hz4.mono h5)) fun R6 h6 a a' ha => ?_
              obtain rfl := ha
              refine sim_bind (sim_byteOf ((hq4.mono h5).mono h6)) fun R7 h7 a a' ha => ?_
              obtain rfl := ha
              exact sim_pure fun _ _ => rfl
            · exact hdesc R5 h5
          exact key R5 (.refl _) w u hw
        | _ => exact sim_noOk (noOk_halt _) _
      | _ => cases hy1 <;> exact sim_noOk (noOk_halt _) _
    | array n e =>
      dsimp only at h
      cases hx1 with
      | agg x1 x2 =>
        cases hy1 with
        | agg y1 y2 =>
          dsimp only
          refine sim_bind (same_sizeOf e) fun R2 h2 m m' hm => ?_
          obtain rfl := hm
          refine sim_bind (A := fun _ x x' => x = x') ?_ fun R3 h3 s s' hs => ?_
          · rw [Std.Legacy.Range.forIn_eq_forIn_range', Std.Legacy.Range.forIn_eq_forIn_range']
            refine sim_listForIn (fun R3 h3 i _ b => ?_) _
            refine sim_bind (sim_part (VRs.mono (h2.trans h3) ⟨x1, x2⟩) e _) fun R4 h4 u u' hu => ?_
            refine sim_bind (sim_part (VRs.mono ((h2.trans h3).trans h4) ⟨y1, y2⟩) e _) fun R5 h5 v v' hv => ?_
            refine sim_bind (sim_equalIn d d' e h R5 (hu.mono h5) hv) fun R6 h6 b b' hb => ?_
            obtain rfl := hb
            split <;> exact sim_pure fun _ _ => rfl
          · obtain rfl := hs
            split <;> exact sim_pure fun _ _ => rfl
        | _ => exact sim_noOk (noOk_halt _) _
      | _ => cases hy1 <;> exact sim_noOk (noOk_halt _) _
    | struct fs =>
      dsimp only at h
      cases hx1 with
      | agg x1 x2 =>
        cases hy1 with
        | agg y1 y2 =>
          dsimp only
          refine sim_bind sim_program fun R2 h2 p p' hp => ?_
          rw [hp.1, hp.2]
          split
          · exact sim_noOk (noOk_halt _) _
          refine sim_bind (A := fun _ x x' => x = x') ?_ fun R3 h3 s s' hs => ?_
          · rw [<- Array.forIn_toList, <- Array.forIn_toList]
            refine sim_listForIn (fun R3 h3 f hf b => ?_) _
            have hft : intTree P d f.type = true := by
              rw [Array.all_eq_true_iff_forall_mem] at h
              exact h f (by simpa using hf)
            split
            · refine sim_bind (sim_part (VRs.mono (h2.trans h3) ⟨x1, x2⟩) f.type _) fun R4 h4 u u' hu => ?_
              refine sim_bind (sim_part (VRs.mono ((h2.trans h3).trans h4) ⟨y1, y2⟩) f.type _) fun R5 h5 v v' hv => ?_
              refine sim_bind (sim_equalIn d d' f.type hft R5 (hu.mono h5) hv) fun R6 h6 b b' hb => ?_
              obtain rfl := hb
              split <;> exact sim_pure fun _ _ => rfl
            · exact sim_pure fun _ _ => rfl
          · obtain rfl := hs
            split <;> exact sim_pure fun _ _ => rfl
        | _ => exact sim_noOk (noOk_halt _) _
      | _ => cases hy1 <;> exact sim_noOk (noOk_halt _) _
    | _ => cases h
theorem sim_floatArith (o : BinOp) (k : FloatKind) (x y : Nat) : Sim P F (fun R v v' => VR F R v v' /\ ∃ r, v = .float k r /\ v' = .float k r) R (Op.floatArith o k x y) (Op.floatArith o k x y) := by
  unfold Op.floatArith
  have key : ∀ (R1 : Rl) (res : Option Nat), Sim P F (fun R v v' => VR F R v v' /\ ∃ r, v = .float k r /\ v' = .float k r) R1
      (match res with | some r => pure (.float k r) | none => do pure (.float k (<- choose (.nanBits k x y)))) (match res with | some r => pure (.float k r) | none => do pure (.float k (<- choose (.nanBits k x y)))) := fun R1 res => by
    cases res with
    | some r => exact sim_pure fun _ _ => ⟨.float _ _, r, rfl, rfl⟩
    | none =>
      refine sim_bind (sim_choose _) fun R1 _ n n' hn => ?_
      obtain rfl := hn
      exact sim_pure fun _ _ => ⟨.float _ _, n, rfl, rfl⟩
  cases o <;> first | exact key R _ | exact sim_noOk (noOk_halt _) _
theorem sim_floatCmp (o : BinOp) (k : FloatKind) (x y : Nat) : Sim P F (fun R v v' => VR F R v v') R (Op.floatCmp o k x y) (Op.floatCmp o k x y) := by
 unfold Op.floatCmp
 dsimp only
 split <;> first | exact sim_pure fun _ _ => .bool _ | exact sim_halt _ _
theorem sim_cArith (o : BinOp) (k : FloatKind) (x y : Nat) : Sim P F (fun _ n n' => n = n') R (Op.Complex.arith o k x y) (Op.Complex.arith o k x y) := by
 unfold Op.Complex.arith
 refine sim_bind (sim_floatArith o k x y) fun R1 _ v v' hv => ?_
 obtain ⟨_, r, rfl, rfl⟩ := hv
 exact sim_pure fun _ _ => rfl
theorem sim_cCmp (o : BinOp) (k : FloatKind) (x y : Nat) : Sim P F (fun _ n n' => n = n') R (Op.Complex.cmp o k x y) (Op.Complex.cmp o k x y) := by
 unfold Op.Complex.cmp
 exact sim_bind (sim_floatCmp o k x y) fun R1 _ v v' hv => sim_asBool hv
theorem sim_complexOp {o : BinOp} (ho : o ≠ .mul /\ o ≠ .quo) (k : FloatKind) (a b c d : Nat) : Sim P F (fun R v v' => VR F R v v') R (Op.complexOp o k a b c d) (Op.complexOp o k a b c d) := by
 unfold Op.complexOp
 split
 ·refine sim_bind (sim_cArith _ _ _ _) fun R1 _ n n' hn => ?_
  obtain rfl := hn
  refine sim_bind (sim_cArith _ _ _ _) fun R1 _ n n' hn => ?_
  obtain rfl := hn
  exact sim_pure fun _ _ => .complex _ _ _
 ·refine sim_bind (sim_cArith _ _ _ _) fun R1 _ n n' hn => ?_
  obtain rfl := hn
  refine sim_bind (sim_cArith _ _ _ _) fun R1 _ n n' hn => ?_
  obtain rfl := hn
  exact sim_pure fun _ _ => .complex _ _ _
 ·exact absurd rfl ho.1
 ·exact absurd rfl ho.2
 ·refine sim_bind (sim_cCmp _ _ _ _) fun R1 _ n n' hn => ?_
  obtain rfl := hn
  refine sim_bind (sim_cCmp _ _ _ _) fun R1 _ n n' hn => ?_
  obtain rfl := hn
  exact sim_pure fun _ _ => .bool _
 ·refine sim_bind (sim_cCmp _ _ _ _) fun R1 _ n n' hn => ?_
  obtain rfl := hn
  refine sim_bind (sim_cCmp _ _ _ _) fun R1 _ n n' hn => ?_
  obtain rfl := hn
  exact sim_pure fun _ _ => .bool _
 ·exact sim_halt _ _
theorem noOk_under {α : Type} {t : TypeId} {f : TypeDesc -> Sem α} (h : ∀ d, P.underlying t = some d -> NoOk P (f d)) : NoOk P (underlying t >>= f) := by
 intro w es a w1 es1 hr
 rw [runT_bind] at hr
 unfold underlying at hr
 rw [runT_bind] at hr
 simp only [program, Sem.runT] at hr
 cases e : P.underlying t with
 | none => rw [e] at hr; cases hr
 | some d => rw [e] at hr; exact h d e _ _ _ _ _ hr
theorem noOk_equal {t : TypeId} (h : intTree P 8 t = true) (x y : Value) (hxy : x = .tuple #[] \/ y = .tuple #[]) : NoOk P (Op.equal t x y) := by
 show NoOk P (Op.equalIn (9999 + 1) t x y)
 unfold Op.equalIn
 refine noOk_under fun d hd => ?_
 unfold intTree at h
 rw [hd] at h
 rcases hxy with rfl | rfl
 ·cases d with
  | int k => cases y <;> exact noOk_halt _
  | array n e => cases y <;> exact noOk_halt _
  | struct fs => cases y <;> exact noOk_halt _
  | _ => cases h
 ·cases d with
  | int k =>
   cases x with
   | pointer a => cases a <;> exact noOk_halt _
   | int k n => cases n with
    | ofNat n => cases n <;> exact noOk_halt _
    | negSucc n => exact noOk_halt _
   | _ => exact noOk_halt _
  | array n e => cases x <;> exact noOk_halt _
  | struct fs => cases x <;> exact noOk_halt _
  | _ => cases h
theorem noOk_bindL {α β : Type} {s : Sem β} {f : β -> Sem α} (h : NoOk P s) : NoOk P (s >>= f) := fun w es a w1 es1 hr => by
 rw [runT_bind] at hr
 cases hs : s.runT P w es with
 | mk r e =>
  rw [hs] at hr
  cases r with
  | ok b w2 => exact h _ _ _ _ _ hs
  | halt x w2 => cases hr
theorem noOk_binOp {o : BinOp} {t : TypeId} (ho : binOk P o t = true) (x y : Value) (hxy : x = .tuple #[] \/ y = .tuple #[]) : NoOk P (binOp o t x y) := by
 have hit : (o = .eql \/ o = .neq) -> intTree P 8 t = true := fun h => by
  rcases h with rfl | rfl <;> (simp only [binOk, Bool.and_eq_true] at ho; exact ho.1)
 have h1 := hxy
 cases o with
 | add | sub | lss | leq | gtr | geq =>
  rcases hxy with rfl | rfl
  ·cases y <;> exact noOk_halt _
  ·cases x with
   | pointer a => cases a <;> exact noOk_halt _
   | _ => exact noOk_halt _
 | eql | neq =>
  have h8 := hit (by simp)
  rcases hxy with rfl | rfl
  ·cases y <;> exact noOk_bindL (noOk_equal h8 _ _ h1)
  ·cases x <;> exact noOk_bindL (noOk_equal h8 _ _ h1)
 | _ => cases ho
set_option maxHeartbeats 1000000 in
theorem sim_binOp {o : BinOp} {t : TypeId} (ho : binOk P o t = true) {x x' y y' : Value} (hx : VR F R x x') (hy : VR F R y y') : Sim P F (fun R v v' => VR F R v v') R (binOp o t x y) (binOp o t x' y') := by
  have heq : ∀ {x x' y y' : Value}, intTree P 8 t = true -> VR F R x x' -> VR F R y y' -> Sim P F (fun _ b b' => b = b') R (Op.equal t x y) (Op.equal t x' y') := fun h hx hy => sim_equalIn 8 _ t h R hx hy
  have e1 : ∀ {x x' y y' : Value}, intTree P 8 t = true -> VR F R x x' -> VR F R y y' -> Sim P F (fun R v v' => VR F R v v') R (do pure (.bool (<- Op.equal t x y))) (do pure (.bool (<- Op.equal t x' y'))) := fun h hx hy => by
    refine sim_bind (heq h hx hy) fun R1 _ b b' hb => ?_
    obtain rfl := hb
    exact sim_pure fun _ _ => .bool _
  have e2 : ∀ {x x' y y' : Value}, intTree P 8 t = true -> VR F R x x' -> VR F R y y' -> Sim P F (fun R v v' => VR F R v v') R (do pure (.bool (!(<- Op.equal t x y)))) (do pure (.bool (!(<- Op.equal t x' y')))) := fun h hx hy => by
    refine sim_bind (heq h hx hy) fun R1 _ b b' hb => ?_
    obtain rfl := hb
    exact sim_pure fun _ _ => .bool _
  have hfa : ∀ (o : BinOp) (k : FloatKind) (x y : Nat), Sim P F (fun R v v' => VR F R v v') R (Op.floatArith o k x y) (Op.floatArith o k x y) := fun o k x y => sim_mono (sim_floatArith o k x y) fun _ _ _ _ h => h.1
  have hsub : ∀ {a a' b b' : Addr}, AR R a a' -> AR R b b' -> Sim P F (fun R v v' => VR F R v v') R (do Op.addrSub .u64 (<- behindNumber a).1 (<- behindNumber b).1) (do Op.addrSub .u64 (<- behindNumber a').1 (<- behindNumber b').1) := fun ha hb =>
    sim_bind (sim_behindNumber ha) fun R1 h1 z z' hz => sim_bind (sim_behindNumber (hb.mono h1)) fun R2 h2 q q' hq => sim_addrSub _ (hz.1.mono h2) hq.1
  have hcmp : ∀ (o : BinOp) {a a' b b' : Addr}, AR R a a' -> AR R b b' -> Sim P F (fun R v v' => VR F R v v') R (do Op.addrCmp o (<- behindNumber a).1 (<- behindNumber b).1) (do Op.addrCmp o (<- behindNumber a').1 (<- behindNumber b').1) := fun o _ _ _ _ ha hb =>
    sim_bind (sim_behindNumber ha) fun R1 h1 z z' hz => sim_bind (sim_behindNumber (hb.mono h1)) fun R2 h2 q q' hq => sim_addrCmp _ (hz.1.mono h2) hq.1
  have hite : ∀ (c : Prop) [Decidable c] (m : String) (s : Sem Value), Sim P F (fun R v v' => VR F R v v') R s s -> Sim P F (fun R v v' => VR F R v v') R (if c then stuck m else s) (if c then stuck m else s) := fun c _ m s hs => by
    split
    · exact sim_halt _ _
    · exact hs
  have hmv : ∀ {x x' y y' : Value}, P.underlying t ≠ some .unsafePointer -> VR F R x x' -> VR F R y y' -> Sim P F (fun R v v' => VR F R v v') R
      (do if (<- underlying t) matches .unsafePointer then movedPointer t x y else movedNumber t x y) (do if (<- underlying t) matches .unsafePointer then movedPointer t x' y' else movedNumber t x' y') := fun hn hx hy => by
    refine sim_bind (same_underlying t) fun R1 h1 d d' hd => ?_
    obtain ⟨rfl, hd⟩ := hd
    split
    · exact absurd hd hn
    · rw [if_neg (by simp), if_neg (by simp)]
      exact sim_movedNumber t (hx.mono h1) (hy.mono h1)
  have hnp : (o = .add \/ o = .sub) -> P.underlying t ≠ some .unsafePointer := fun h e => by
    rcases h with rfl | rfl <;> simp [binOk, e] at ho
  have hit : (o = .eql \/ o = .neq) -> intTree P 8 t = true := fun h => by
    rcases h with rfl | rfl <;> (simp only [binOk, Bool.and_eq_true] at ho; exact ho.1)
  cases o with
  | add =>
    cases hx <;> cases hy <;> first
      | exact sim_noOk (noOk_halt _) _
      | exact hite _ _ _ (sim_intArith _ _ _ _)
      | exact hite _ _ _ (hfa _ _ _ _)
      | exact hite _ _ _ (sim_complexOp (by decide) _ _ _ _ _)
      | (unfold binOp; exact same_stringOp _ _ _)
      | (refine sim_movedNumber t (.pointer ?_) (.int _ _); assumption)
      | exact sim_movedNumber t .nilPointer (.int _ _)
      | (refine hmv (hnp (.inl rfl)) (.pointer ?_) (.int _ _); assumption)
      | exact hmv (hnp (.inl rfl)) .nilPointer (.int _ _)
  | sub =>
    cases hx <;> cases hy <;> first
      | exact sim_noOk (noOk_halt _) _
      | exact hite _ _ _ (sim_intArith _ _ _ _)
      | exact hite _ _ _ (hfa _ _ _ _)
      | exact hite _ _ _ (sim_complexOp (by decide) _ _ _ _ _)
      | (unfold binOp; exact same_stringOp _ _ _)
      | (refine sim_movedNumber t (.pointer ?_) (.int _ _); assumption)
      | exact sim_movedNumber t .nilPointer (.int _ _)
      | (refine hsub ?_ ?_ <;> assumption)
  | lss | leq | gtr | geq =>
    cases hx <;> cases hy <;> first
      | exact sim_noOk (noOk_halt _) _
      | exact hite _ _ _ (sim_intCmp _ _ _)
      | exact hite _ _ _ (sim_floatCmp _ _ _ _)
      | exact hite _ _ _ (sim_complexOp (by decide) _ _ _ _ _)
      | (unfold binOp; exact same_stringOp _ _ _)
      | (refine hcmp _ ?_ ?_ <;> assumption)
  | eql =>
    have h8 := hit (.inl rfl)
    have hx' := hx
    have hy' := hy
    cases hx <;> cases hy <;> first
      | exact e1 h8 hx' hy'
      | exact sim_noOk (noOk_bindL (noOk_equal h8 _ _ (.inr rfl))) _
      | exact sim_noOk (noOk_bindL (noOk_equal h8 _ _ (.inl rfl))) _
      | exact hite _ _ _ (sim_intCmp _ _ _)
      | exact hite _ _ _ (sim_floatCmp _ _ _ _)
      | exact hite _ _ _ (sim_complexOp (by decide) _ _ _ _ _)
      | (unfold binOp; exact same_stringOp _ _ _)
  | neq =>
    have h8 := hit (.inr rfl)
    have hx' := hx
    have hy' := hy
    cases hx <;> cases hy <;> first
      | exact e2 h8 hx' hy'
      | exact sim_noOk (noOk_bindL (noOk_equal h8 _ _ (.inr rfl))) _
      | exact sim_noOk (noOk_bindL (noOk_equal h8 _ _ (.inl rfl))) _
      | exact hite _ _ _ (sim_intCmp _ _ _)
      | exact hite _ _ _ (sim_floatCmp _ _ _ _)
      | exact hite _ _ _ (sim_complexOp (by decide) _ _ _ _ _)
      | (unfold binOp; exact same_stringOp _ _ _)
  | _ => cases ho
end
section
variable {P : Program} {F : FuncId -> Bool} {R : Rl}
theorem guardIn_nil {d' d : Nat} {t : TypeId} (h : intTree P d t = true) : Sim P F (fun _ b b' => b = false /\ b' = false) R (Op.eqGuardIn d' t .nilIface .nilIface) (Op.eqGuardIn d' t .nilIface .nilIface) := by
 cases d' with
 | zero => exact sim_noOk (noOk_halt _) _
 | succ d' =>
  cases d with
  | zero => cases h
  | succ d =>
   unfold Op.eqGuardIn
   refine sim_bind (same_underlying t) fun R1 h1 dd dd' hd => ?_
   obtain ⟨rfl, hd⟩ := hd
   unfold intTree at h
   rw [hd] at h
   cases dd <;> first | exact sim_pure fun _ _ => ⟨rfl, rfl⟩ | (cases h; done)
theorem sim_eqGuard {o : BinOp} {t : TypeId} (ho : binOk P o t = true) (p q : Operand) {x x' y y' : Value} (hx : VR F R x x') (hy : VR F R y y') (nx : x ≠ .tuple #[]) (ny : y ≠ .tuple #[]) : Sim P F (fun _ _ _ => True) R (eqGuard o t p q x y) (eqGuard o t p q x' y') := by
  have go : intTree P 8 t = true -> P.eqGuardType P.depth t = false -> Sim P F (fun _ _ _ => True) R (eqGuard .eql t p q x y) (eqGuard .eql t p q x' y') := fun h8 hg => by
    unfold eqGuard
    simp only [Bool.not_true, Bool.false_eq_true, if_false]
    cases hx <;> cases hy <;> first
      | exact absurd rfl nx
      | exact absurd rfl ny
      | exact sim_pure fun _ _ => trivial
      | (refine sim_bind sim_program fun R1 _ p p' hp => ?_
         refine sim_bind sim_program fun R2 _ q q' hq => ?_
         rw [hp.1, hp.2, hq.1, hq.2, hg]
         exact sim_pure fun _ _ => trivial)
      | (dsimp only
         (repeat' split) <;> first
           | exact sim_pure fun _ _ => trivial
           | (refine sim_bind (guardIn_nil h8) fun R1 _ b b' hb => ?_
              rw [hb.1, hb.2]
              exact sim_pure fun _ _ => trivial))
  cases o with
  | eql => simp only [binOk, Bool.and_eq_true, Bool.not_eq_true'] at ho; exact go ho.1 ho.2
  | neq => simp only [binOk, Bool.and_eq_true, Bool.not_eq_true'] at ho; exact go ho.1 ho.2
  | _ => exact sim_pure fun _ _ => trivial
theorem sim_listMapM {γ : Type} {f : γ -> Sem Value} : ∀ {l : List γ} {f' : γ -> Sem Value} {R : Rl}, (∀ R1, R.le R1 -> ∀ x ∈ l, Sim P F (fun R v v' => VR F R v v') R1 (f x) (f' x)) -> Sim P F (fun R a a' => VRl F R a a') R (l.mapM f) (l.mapM f')
 | [], _, _, _ => sim_pure fun _ _ => .nil
 | x :: l, f', R, h => by
  rw [List.mapM_cons, List.mapM_cons]
  refine sim_bind (h R (.refl _) x (List.mem_cons_self ..)) fun R1 h1 v v' hv => ?_
  refine sim_bind (sim_listMapM (l := l) (f := f) (f' := f') fun R2 h2 y hy => h R2 (h1.trans h2) y (List.mem_cons_of_mem _ hy)) fun R2 h2 a a' ha => ?_
  exact sim_pure fun R3 h3 => .cons ((hv.mono h2).mono h3) (ha.mono h3)
theorem vr_undef : VR F R undef undef := .tuple rfl fun i v v' h => by simp at h
theorem VRs.getD {c c' : Array Value} (h : VRs F R c c') (i : Nat) : VR F R (c.getD i undef) (c'.getD i undef) := by
 by_cases hi : i < c.size
 ·have e1 : c[i]? = some c[i] := aG hi
  have hi' : i < c'.size := h.size ▸ hi
  have e2 : c'[i]? = some c'[i] := aG hi'
  simp only [Array.getD, hi, hi', dif_pos]
  exact h.get i _ _ e1 e2
 ·have hi' : ¬ i < c'.size := h.size ▸ hi
  simp only [Array.getD, hi, hi', dif_neg, not_false_eq_true]
  exact vr_undef
theorem VRl.length {l l' : List Value} (h : VRl F R l l') : l.length = l'.length := by
 induction h with
 | nil => rfl
 | cons _ _ ih => simp [ih]
theorem VRl.get {l l' : List Value} (h : VRl F R l l') : ∀ (i : Nat) (v v' : Value), l[i]? = some v -> l'[i]? = some v' -> VR F R v v' := by
 induction h with
 | nil => intro i v v' h; simp at h
 | cons hv _ ih =>
  intro i v v' h1 h2
  cases i with
  | zero => simp at h1 h2; subst h1 h2; exact hv
  | succ i => exact ih i v v' (by simpa using h1) (by simpa using h2)
theorem sim_results (fn : Func) {c c' : Array Value} (h : VRs F R c c') : Sim P F (fun R v v' => VR F R v v') R (results fn c) (results fn c') := by
 unfold results
 rw [Array.mapM_eq_mapM_toList, Array.mapM_eq_mapM_toList]
 refine sim_bind (A := fun R a a' => VRs F R a a') ?_ fun R1 h1 a a' ha => ?_
 ·refine sim_bind (sim_listMapM fun R1 h1 x _ => ?_) fun R1 h1 l l' hl => ?_
  ·cases x with
   | tmp t => exact sim_pure fun _ h2 => ((h.mono h1).mono h2).getD t
   | cell a t => exact sim_bind (sim_asAddr ((h.mono h1).getD a)) fun _ _ _ _ hb => sim_loadVar hb t
  ·refine sim_pure fun R2 h2 => ⟨by simpa using (hl.mono h2).length, fun i v v' e e' => (hl.mono h2).get i v v' (by simpa using e) (by simpa using e')⟩
 ·refine sim_pure fun R2 h2 => ?_
  have ha2 := ha.mono h2
  by_cases e : a.size = 1
  ·have e' : a'.size = 1 := ha2.size ▸ e
   simp only [e, e', dif_pos]
   exact ha2.get 0 _ _ (aG (by omega)) (aG (by omega))
  ·have e' : ¬ a'.size = 1 := ha2.size ▸ e
   simp only [e, e', dif_neg, not_false_eq_true]
   exact .tuple ha2.size ha2.get
end
end Go.Tp
