/- A part of the proof of RentMoreTrunks; no conditions of its own. -/
import Derived.Test.YtaikibfkggglgaaDoorX11
import Derived.DyingErrors
import Derived.KernelRfl
set_option maxRecDepth 100000
open Go renaming undef → ud
open Nat renaming le_refl → nR
open Go.Proofs.Tryd renaming prog → tP
open Array renaming getElem?_eq_some_iff → aS
open Go.World renaming block_lt_of_cell? → wBk
open Option.some renaming injEq → oI
namespace Go.Proofs.YtaikibfkggglgaaDoor
open Go.RowKit Go.Rent
def Comes (P : Program) (it : List Item) (Q : List Item -> Act -> World -> Prop) (a : Act) (w : World) : Prop :=
 ∀ (b : Frame) (k : List Item) (cs : List Frame), ∃ it' a' w', Q it' a' w' /\ Steps P (lone (b.at a (it ++ k)) cs w) (lone (b.at a' (it' ++ k)) cs w')
theorem comes_here {P : Program} {it : List Item} {Q : List Item -> Act -> World -> Prop} {a : Act} {w : World} (h : Q it a w) : Comes P it Q a w := fun _ _ _ => ⟨it, a, w, h, .refl _ _⟩
theorem comes_seq {P : Program} {x y : Code} {Q : List Item -> Act -> World -> Prop} {a : Act} {w : World} (h : x.wp P (Exit.then (fun a w => Comes P [.code y] Q a w) Gone) a w) : Comes P [.code (.seq x y)] Q a w := by
 intro b k cs
 obtain ⟨e, a1, w1, hq, harr⟩ := h b (.code y :: k) cs
 cases e with
 | normal =>
  obtain ⟨it', a', w', q, s⟩ := hq b k cs
  exact ⟨it', a', w', q, .head step_seq (Steps.trans harr s)⟩
 | _ => exact hq.elim
theorem comes_cond {P : Program} {c : Operand} {x y : Code} {t : Bool} {Q : List Item -> Act -> World -> Prop} {a : Act} {w : World} (hc : a.eval c = .bool t) (h : Comes P [.code (if t then x else y)] Q a w) : Comes P [.code (.cond c x y)] Q a w := by
 intro b k cs
 obtain ⟨it', a', w', q, s⟩ := h b k cs
 exact ⟨it', a', w', q, .head (step_cond hc) s⟩
theorem comes_region {P : Program} {id : Nat} {ops : Array Oper} {Q : List Item -> Act -> World -> Prop} {a : Act} {w : World} (h : Comes P [.inRegion ops (List.range ops.size)] Q a w) : Comes P [.code (.region id ops false)] Q a w := by
 intro b k cs
 obtain ⟨it', a', w', q, s⟩ := h b k cs
 exact ⟨it', a', w', q, .head step_region s⟩
theorem comes_op {P : Program} {ops : Array Oper} {i : Nat} {rest : List Nat} {o : Oper} {Q : List Item -> Act -> World -> Prop} {a : Act} {w w1 : World} {v : Value} (ho : ops[i]? = some o) (hw : Region.wanted o (yielded ops a.tmps) = true)
  (hr : (execOp a.eval o).run P w = .ok (.value v) w1) (h : Comes P [.inRegion ops rest] Q (a.put o.dst v) w1) : Comes P [.inRegion ops (i :: rest)] Q a w := by
 intro b k cs
 obtain ⟨it', a', w', q, s⟩ := h b k cs
 have hg := stepG_op (P := P) (b := b) (k := k) (cs := cs) (w := w) (rest := rest) ho hw
 have hfin : ∀ v, (b.at a (.inRegion ops (i :: rest) :: k)).finish v = b.at (a.put o.dst v) (.inRegion ops rest :: k) := by
  intro v; rw [Frame.finish_at, ho]; rfl
 refine ⟨it', a', w', q, .head (step_lone_go ?_) s⟩
 change (stepG P true { frame := b.at a (.inRegion ops (i :: rest) :: k), callers := cs, status := .running, dying := none } w).bare = _
 rw [hg]
 show _ = GStep.go { frame := b.at (a.put o.dst v) (.inRegion ops rest :: k), callers := cs, status := .running, dying := none } w1
 rw [<- hfin]; simp [stepG.apply, hr]
theorem lackFrom_congr {l l' T : Nat -> Int} : ∀ (n i : Nat), (∀ k, k < i + n -> l k = l' k) -> lackFrom l T n i = lackFrom l' T n i
 | 0, _, _ => rfl
 | n + 1, i, h => by
  unfold lackFrom
  rw [h i (by omega), lackFrom_congr n (i + 1) (fun k hk => h k (by omega))]
theorem lack_congr (B : Bk) (hB : B.Fine) {l l' T : Nat -> Int} (h : ∀ k, k < 6 -> l k = l' k) : B.lack l T = B.lack l' T := lackFrom_congr _ _ fun k hk => h k (by have := hB.links; omega)
section
variable (B : Bk) (T : Nat -> Int) (h : Nat)
def KidEnd (vA vB : Value) (w : World) (it : List Item) (a : Act) (w' : World) : Prop :=
 Below w.heap.size w w' /\ ∃ ops o i j, it = [.inRegion ops [2]] /\ ops[2]? = some o /\ o.op = .send (.tmp i) (.tmp j) /\ o.guard = none /\ a.eval (.tmp i) = (if 0 <= B.lackIn T true h then vA else vB) /\ a.eval (.tmp j) = found B T h /\ a.defers = []
end
theorem below_set {a w : World} {p : Addr} {u : Value} (h : Below a.heap.size a w) (hn : a.heap.size <= p.block) : Below a.heap.size a (w.setCell p u) := h.setCell hn u
theorem kid_keep {w w' : World} {c0 c1 c2 c3 c4 c5 c6 c7 c8 c9 c10 c11 o0 o1 o2 o3 o4 o5 o6 o7 o8 o9 o10 o11 : Nat} {v0 v1 v2 v3 v4 v5 v6 v7 v8 v9 v10 v11 : Value} (hB : Below w.heap.size w w') (k0 : w.cell? ⟨c0, o0, none⟩ = some v0) (k1 : w.cell? ⟨c1, o1, none⟩ = some v1) (k2 : w.cell? ⟨c2, o2, none⟩ = some v2) (k3 : w.cell? ⟨c3, o3, none⟩ = some v3) (k4 : w.cell? ⟨c4, o4, none⟩ = some v4) (k5 : w.cell? ⟨c5, o5, none⟩ = some v5) (k6 : w.cell? ⟨c6, o6, none⟩ = some v6) (k7 : w.cell? ⟨c7, o7, none⟩ = some v7) (k8 : w.cell? ⟨c8, o8, none⟩ = some v8) (k9 : w.cell? ⟨c9, o9, none⟩ = some v9) (k10 : w.cell? ⟨c10, o10, none⟩ = some v10) (k11 : w.cell? ⟨c11, o11, none⟩ = some v11) :
  Below w.heap.size w w' /\ w'.cell? ⟨c0, o0, none⟩ = some v0 /\ w'.cell? ⟨c1, o1, none⟩ = some v1 /\ w'.cell? ⟨c2, o2, none⟩ = some v2 /\ w'.cell? ⟨c3, o3, none⟩ = some v3 /\ w'.cell? ⟨c4, o4, none⟩ = some v4 /\ w'.cell? ⟨c5, o5, none⟩ = some v5 /\ w'.cell? ⟨c6, o6, none⟩ = some v6 /\ w'.cell? ⟨c7, o7, none⟩ = some v7 /\ w'.cell? ⟨c8, o8, none⟩ = some v8 /\ w'.cell? ⟨c9, o9, none⟩ = some v9 /\ w'.cell? ⟨c10, o10, none⟩ = some v10 /\ w'.cell? ⟨c11, o11, none⟩ = some v11 :=
 ⟨hB, cell_below hB k0 (nR _), cell_below hB k1 (nR _), cell_below hB k2 (nR _), cell_below hB k3 (nR _), cell_below hB k4 (nR _), cell_below hB k5 (nR _), cell_below hB k6 (nR _), cell_below hB k7 (nR _), cell_below hB k8 (nR _), cell_below hB k9 (nR _), cell_below hB k10 (nR _), cell_below hB k11 (nR _)⟩
def Box3 (w : World) (b : Nat) (x0 x1 x2 : Int) : Prop :=
 w.cell? ⟨b, 0, none⟩ = some (.int .i64 x0) /\ w.cell? ⟨b, 1, none⟩ = some (.int .i64 x1) /\ w.cell? ⟨b, 2, none⟩ = some (.int .i64 x2) /\ w.frozen? ⟨b, 0, none⟩ = false /\ w.frozen? ⟨b, 1, none⟩ = false /\ w.frozen? ⟨b, 2, none⟩ = false
def K1 (bb hb trb b5 b6 b7 : Nat) (p3 p4 y8 y9 y10 y11 y12 y13 y14 y15 y16 y17 y18 y19 y20 y21 y22 y23 : Value) : Act := ⟨#[.pointer (some ⟨bb, 0, none⟩), .pointer (some ⟨hb, 0, none⟩), .pointer (some ⟨trb, 0, none⟩), p3, p4, .pointer (some ⟨b5, 0, none⟩), .pointer (some ⟨b6, 0, none⟩), .pointer (some ⟨b7, 0, none⟩), y8, y9, y10, y11, y12, y13, y14, y15, y16, y17, y18, y19, y20, y21, y22, y23, ud, ud, ud, ud, ud, ud, ud, ud, ud, ud, ud, ud, ud, ud, ud, ud, ud, ud], []⟩
set_option maxHeartbeats 1600000 in
theorem kid_r1 (V : BkV) (B : Bk) (hB : B.Fine) (bb hb trb h tb tofs tcap b5 b6 : Nat) (T : Nat -> Int) (p3 p4 : Value) (w : World) (hT : TrAt w tb tofs B.links.length T) (hk : KidAt w V B bb hb trb h tb tofs tcap) (h5 : Box w b5 (B.inn T true h))
  (id : Nat) (ops : Array Oper) (rest : Code) (he : kbody = .seq (.region id ops true) rest) (Q : Exit -> Act -> World -> Prop)
  (hQ : ∀ (b7 : Nat) (y8 y9 y10 y11 y12 y13 y14 y15 y16 y17 y18 y19 y20 y21 y22 y23 : Value) (w' : World), Below w.heap.size w w' -> w.heap.size <= b7 -> Box3 w' b7 (h : Int) (B.lackIn T true h) 0 -> Q .normal (K1 bb hb trb b5 b6 b7 p3 p4 y8 y9 y10 y11 y12 y13 y14 y15 y16 y17 y18 y19 y20 y21 y22 y23) w') :
  (Code.region id ops true).wp tP Q (KA V B bb hb trb h tb tofs tcap p3 p4 (.pointer (some ⟨b5, 0, none⟩)) (.pointer (some ⟨b6, 0, none⟩)) (ldv (B.inn T true h)) (ldv (B.inn T false h))) w := by
 obtain ⟨ta, la, pa, tc, lc, pc⟩ := V
 have HT := Lib.hid hT
 obtain ⟨k0, k1, k2, k3, k4, k5, _, _⟩ := hk
 obtain ⟨k6, q6⟩ := h5 0 (by omega)
 obtain ⟨k7, q7⟩ := h5 1 (by omega)
 obtain ⟨k8, q8⟩ := h5 2 (by omega)
 obtain ⟨k9, q9⟩ := h5 3 (by omega)
 obtain ⟨k10, q10⟩ := h5 4 (by omega)
 obtain ⟨k11, q11⟩ := h5 5 (by omega)
 clear hT h5
 simp only [kbody, Tryd.f100, Code.seq.injEq, Code.region.injEq] at he
 obtain ⟨⟨rfl, rfl, _⟩, _⟩ := he
 simp only [KA, ldv]
 have hstart : Below w.heap.size w w.drew := (Below.refl _ _).drew
 go_region_held3 (fun w' => Below w.heap.size w w' /\ w'.cell? ⟨bb, 0, none⟩ = some (.int .i64 B.hours) /\ w'.cell? ⟨bb, 1, none⟩ = some (.slice ta B.towns.length tc) /\ w'.cell? ⟨bb, 2, none⟩ = some (.slice la B.links.length lc) /\ w'.cell? ⟨bb, 3, none⟩ = some (.slice pa B.pairs.length pc) /\ w'.cell? ⟨hb, 0, none⟩ = some (.int .i64 (h : Int)) /\ w'.cell? ⟨trb, 0, none⟩ = some (.slice (some ⟨tb, tofs, none⟩) B.links.length tcap) /\ w'.cell? ⟨b5, 0, none⟩ = some (.int .i64 (B.inn T true h 0)) /\ w'.cell? ⟨b5, 1, none⟩ = some (.int .i64 (B.inn T true h 1)) /\ w'.cell? ⟨b5, 2, none⟩ = some (.int .i64 (B.inn T true h 2)) /\ w'.cell? ⟨b5, 3, none⟩ = some (.int .i64 (B.inn T true h 3)) /\ w'.cell? ⟨b5, 4, none⟩ = some (.int .i64 (B.inn T true h 4)) /\ w'.cell? ⟨b5, 5, none⟩ = some (.int .i64 (B.inn T true h 5)))
  (first
   | (go_split_ands; refine kid_keep ?_ k0 k1 k2 k3 k4 k5 k6 k7 k8 k9 k10 k11; first | assumption | exact below_alloc (by assumption) | exact below_alloc (below_alloc (by assumption)) | (refine below_set (below_set (below_set (by assumption) ?_) ?_) ?_ <;> exact nR _)))
  (first
   | (go_simp; go_at_call 70; go_split_ands; (with_reducible refine (c70 ⟨ta, la, pa, tc, lc, pc⟩ B hB (B.inn T true h) tb tofs tcap T _ (HT.out.below (by assumption) (nR _))).mono ?_); rintro e w1 ⟨rfl, hbel⟩; have hw1 : Below w.heap.size w w1 := below_call (by assumption) hbel; obtain ⟨hc, hf⟩ := bcell hbel))
 ·go_split_ands
  refine hQ _ _ _ _ _ _ _ _ _ _ _ _ _ _ _ _ _ _ (by assumption) hw1.size ?_
  refine ⟨?_, ?_, ?_, ?_, ?_, ?_⟩ <;> (go_simp <;> rfl)
 ·go_split_ands
  refine hQ _ _ _ _ _ _ _ _ _ _ _ _ _ _ _ _ _ _ (by assumption) (nR _) ?_
  refine ⟨?_, ?_, ?_, ?_, ?_, ?_⟩ <;> (go_simp <;> rfl)
def six (a b : Nat -> Int) : Bool := a 0 == b 0 && a 1 == b 1 && a 2 == b 2 && a 3 == b 3 && a 4 == b 4 && a 5 == b 5
theorem six_eq {a b : Nat -> Int} (h : six a b = true) : ∀ k, k < 6 -> a k = b k := by
 simp only [six, Bool.and_eq_true, beq_iff_eq] at h
 obtain ⟨⟨⟨⟨⟨h0, h1⟩, h2⟩, h3⟩, h4⟩, h5⟩ := h
 intro k hk
 match k, hk with
 | 0, _ => exact h0
 | 1, _ => exact h1
 | 2, _ => exact h2
 | 3, _ => exact h3
 | 4, _ => exact h4
 | 5, _ => exact h5
theorem eq94 (a b : Nat -> Int) (w : World) : (Op.equalIn 10000 94 (.agg #[.int .i64 (a 0), .int .i64 (a 1), .int .i64 (a 2), .int .i64 (a 3), .int .i64 (a 4), .int .i64 (a 5)]) (.agg #[.int .i64 (b 0), .int .i64 (b 1), .int .i64 (b 2), .int .i64 (b 3), .int .i64 (b 4), .int .i64 (b 5)])).run tP w = .ok (six a b) w := by
 have u3 := Tryd.underlying3
 have a3 := Tryd.isAgg3
 have z3 := Tryd.sizeOf3
 rw [show (10000 : Nat) = 9999 + 1 from rfl, Op.equalIn]
 simp only [Sem.run_bind, run_underlying Tryd.underlying94, Result.andThen_ok]
 simp only [Std.Legacy.Range.forIn_eq_forIn_range', Std.Legacy.Range.size, Nat.sub_zero, Nat.add_sub_cancel, Nat.div_one, List.range'_succ, List.range'_zero, List.forIn_cons, List.forIn_nil]
 go_simp
 unfold six
 by_cases h0 : a 0 = b 0 <;> by_cases h1 : a 1 = b 1 <;> by_cases h2 : a 2 = b 2 <;> by_cases h3 : a 3 = b 3 <;> by_cases h4 : a 4 = b 4 <;> by_cases h5 : a 5 = b 5 <;> simp [h0, h1, h2, h3, h4, h5]
noncomputable def kend : Code := match kbody with
 | .seq _ (.seq _ (.seq _ c)) => c
 | _ => .skip
def K2 (bb hb trb b5 b6 b7 : Nat) (p3 p4 y8 y9 y10 y11 y12 y13 y14 y15 y16 y17 y18 y19 y20 y21 y22 y23 y24 y25 y26 y27 y28 y29 y30 y31 y32 y33 y34 : Value) : Act := ⟨#[.pointer (some ⟨bb, 0, none⟩), .pointer (some ⟨hb, 0, none⟩), .pointer (some ⟨trb, 0, none⟩), p3, p4, .pointer (some ⟨b5, 0, none⟩), .pointer (some ⟨b6, 0, none⟩), .pointer (some ⟨b7, 0, none⟩), y8, y9, y10, y11, y12, y13, y14, y15, y16, y17, y18, y19, y20, y21, y22, y23, y24, y25, y26, y27, y28, y29, y30, y31, y32, y33, y34, ud, ud, ud, ud, ud, ud, ud], []⟩
set_option maxHeartbeats 1600000 in
theorem kid_end (B : Bk) (bb hb trb h b5 b6 b7 c3 c4 : Nat) (T : Nat -> Int) (y8 y9 y10 y11 y12 y13 y14 y15 y16 y17 y18 y19 y20 y21 y22 y23 y24 y25 y26 y27 y28 y29 y30 y31 y32 y33 y34 vA vB : Value) (W w : World) (hW : Below W.heap.size W w)
  (f0 : w.cell? ⟨b7, 0, none⟩ = some (.int .i64 (h : Int))) (f1 : w.cell? ⟨b7, 1, none⟩ = some (.int .i64 (B.lackIn T true h))) (f2 : w.cell? ⟨b7, 2, none⟩ = some (.int .i64 (B.lackIn T false h)))
  (e3 : w.cell? ⟨c3, 0, none⟩ = some vB) (e4 : w.cell? ⟨c4, 0, none⟩ = some vA) (hA : ∃ x, vA = .chan x) (hB : ∃ x, vB = .chan x) :
  Comes tP [.code kend] (KidEnd B T h vA vB W) (K2 bb hb trb b5 b6 b7 (.pointer (some ⟨c3, 0, none⟩)) (.pointer (some ⟨c4, 0, none⟩)) y8 y9 y10 y11 y12 y13 y14 y15 y16 y17 y18 y19 y20 y21 y22 y23 y24 y25 y26 y27 y28 y29 y30 y31 y32 y33 y34) w := by
 obtain ⟨xA, rfl⟩ := hA
 obtain ⟨xB, rfl⟩ := hB
 simp only [kend, kbody, Tryd.f100, K2]
 refine comes_seq ?_
 go_wp2
 by_cases hl : B.lackIn T true h < 0
 ·refine comes_cond (t := true) (by go_simp) ?_
  simp only [if_true]
  refine comes_region ?_
  change Comes _ [.inRegion _ [0, 1, 2]] _ _ _
  refine comes_op (v := .chan xB) (w1 := w) (by rfl) (by rfl) (by go_simp) ?_
  refine comes_op (v := found B T h) (w1 := w) (by rfl) (by rfl) (by unfold found; go_simp) ?_
  exact comes_here ⟨hW, _, _, _, _, rfl, rfl, rfl, rfl, by rw [if_neg (by omega)]; rfl, rfl, rfl⟩
 ·refine comes_cond (t := false) (by go_simp) ?_
  simp only [Bool.false_eq_true, if_false]
  refine comes_region ?_
  change Comes _ [.inRegion _ [0, 1, 2]] _ _ _
  refine comes_op (v := .chan xA) (w1 := w) (by rfl) (by rfl) (by go_simp) ?_
  refine comes_op (v := found B T h) (w1 := w) (by rfl) (by rfl) (by unfold found; go_simp) ?_
  exact comes_here ⟨hW, _, _, _, _, rfl, rfl, rfl, rfl, by rw [if_pos (by omega)]; rfl, rfl, rfl⟩
set_option maxHeartbeats 1600000 in
theorem kid_r2 (V : BkV) (B : Bk) (hB : B.Fine) (bb hb trb h tb tofs tcap b5 b6 b7 c3 c4 : Nat) (T : Nat -> Int) (y8 y9 y10 y11 y12 y13 y14 y15 y16 y17 y18 y19 y20 y21 y22 y23 vA vB : Value) (W w : World) (hW : Below W.heap.size W w) (hn : W.heap.size <= b7) (hT : TrAt W tb tofs B.links.length T) (hk : KidAt W V B bb hb trb h tb tofs tcap) (h5 : Box W b5 (B.inn T true h)) (h6 : Box W b6 (B.inn T false h)) (h7 : Box3 w b7 (h : Int) (B.lackIn T true h) 0)
  (e3 : W.cell? ⟨c3, 0, none⟩ = some vB) (e4 : W.cell? ⟨c4, 0, none⟩ = some vA) (hA : ∃ x, vA = .chan x) (hvB : ∃ x, vB = .chan x)
  (id : Nat) (ops : Array Oper) (rest : Code) (he : kbody = .seq (.region id ops true) rest) :
  Comes tP [.code rest] (KidEnd B T h vA vB W) (K1 bb hb trb b5 b6 b7 (.pointer (some ⟨c3, 0, none⟩)) (.pointer (some ⟨c4, 0, none⟩)) y8 y9 y10 y11 y12 y13 y14 y15 y16 y17 y18 y19 y20 y21 y22 y23) w := by
 have u5 : b5 < W.heap.size := wBk W _ (h5 0 (by omega)).1
 have u6 : b6 < W.heap.size := wBk W _ (h6 0 (by omega)).1
 have n0 : bb < W.heap.size := wBk W _ hk.b0
 have n1 : trb < W.heap.size := wBk W _ hk.tr
 have n4 : c3 < W.heap.size := wBk W _ e3
 have n5 : c4 < W.heap.size := wBk W _ e4
 have u7 : b7 < w.heap.size := wBk w _ h7.1
 have e3' := cell_below hW e3 (nR _)
 have e4' := cell_below hW e4 (nR _)
 have h5' := h5.below hW u5
 have h6' := h6.below hW u6
 have hk' := hk.below hW (nR _)
 have hw2 : Below W.heap.size W (w.setCell ⟨b7, 2, none⟩ (.int .i64 (B.lackIn T true h))) := hW.setCell hn _
 have hT2 := hT.below hw2 (nR _)
 have hz2 : (w.setCell ⟨b7, 2, none⟩ (.int .i64 (B.lackIn T true h))).heap.size = w.heap.size := by simp
 have HT := Lib.hid hT2
 have HW := Lib.hid hw2
 have HW0 := Lib.hid hW
 obtain ⟨ta, la, pa, tc, lc, pc⟩ := V
 obtain ⟨k0, k1, k2, k3, k4, k5, _, _⟩ := hk'
 obtain ⟨f0, f1, f2, z0, z1, z2⟩ := h7
 obtain ⟨k6, q6⟩ := h5' 0 (by omega)
 obtain ⟨k7, q7⟩ := h5' 1 (by omega)
 obtain ⟨k8, q8⟩ := h5' 2 (by omega)
 obtain ⟨k9, q9⟩ := h5' 3 (by omega)
 obtain ⟨k10, q10⟩ := h5' 4 (by omega)
 obtain ⟨k11, q11⟩ := h5' 5 (by omega)
 obtain ⟨l6, r6⟩ := h6' 0 (by omega)
 obtain ⟨l7, r7⟩ := h6' 1 (by omega)
 obtain ⟨l8, r8⟩ := h6' 2 (by omega)
 obtain ⟨l9, r9⟩ := h6' 3 (by omega)
 obtain ⟨l10, r10⟩ := h6' 4 (by omega)
 obtain ⟨l11, r11⟩ := h6' 5 (by omega)
 clear hT h5 h6 h5' h6' hk hW e3 e4 hT2 hw2
 have s0 : b7 ≠ bb := by omega
 have s1 : b7 ≠ trb := by omega
 have s2 : b7 ≠ b5 := by omega
 have s3 : b7 ≠ b6 := by omega
 have s4 : b7 ≠ c3 := by omega
 have s5 : b7 ≠ c4 := by omega
 have hend := fun y8 y9 y10 y11 y12 y13 y14 y15 y16 y17 y18 y19 y20 y21 y22 y23 y24 y25 y26 y27 y28 y29 y30 y31 y32 y33 y34 w' => kid_end B bb hb trb h b5 b6 b7 c3 c4 T y8 y9 y10 y11 y12 y13 y14 y15 y16 y17 y18 y19 y20 y21 y22 y23 y24 y25 y26 y27 y28 y29 y30 y31 y32 y33 y34 vA vB W w'
 simp only [kbody, Tryd.f100, Code.seq.injEq, Code.region.injEq] at he
 obtain ⟨-, rfl⟩ := he
 simp only [K1]
 have heq := eq94 (B.inn T false h) (B.inn T true h)
 refine comes_seq ?_
 go_wp2
 refine comes_seq ?_
 cases hs : six (B.inn T false h) (B.inn T true h) with
 | true =>
  rw [hs] at heq
  have hll : B.lackIn T true h = B.lackIn T false h := lack_congr B hB fun k hk => (six_eq hs k hk).symm
  have HL := Lib.hid hll
  clear hll
  clear hs
  go_wp2
  refine hend _ _ _ _ _ _ _ _ _ _ _ _ _ _ _ _ _ _ _ _ _ _ _ _ _ _ _ _ HW.out ?_ ?_ ?_ ?_ ?_ hA hvB
  ·go_simp
  ·go_simp
  ·rw [<- HL.out]; go_simp
  ·go_simp
  ·go_simp
 | false =>
  rw [hs] at heq
  clear hs
  go_wp2_with (first | (go_at_call 70; refine ((c70 ⟨ta, la, pa, tc, lc, pc⟩ B hB (B.inn T false h) tb tofs tcap T _ HT.out)).mono ?_; rintro e w3 ⟨rfl, hb3⟩; (have h3 := (bcell hb3).1 b7 0 (by rw [hz2]; exact u7)); (have h4 := (bcell hb3).1 b7 1 (by rw [hz2]; exact u7)); (have h5 := (bcell hb3).1 b7 2 (by rw [hz2]; exact u7)); (have h6 := (bcell hb3).2 b7 2 (by rw [hz2]; exact u7)); (have h7 := (bcell hb3).1 c3 0 (by rw [hz2]; omega)); (have h8 := (bcell hb3).1 c4 0 (by rw [hz2]; omega)); (have HB3 := Lib.hid hb3); clear hb3))
  refine hend _ _ _ _ _ _ _ _ _ _ _ _ _ _ _ _ _ _ _ _ _ _ _ _ _ _ _ _ ((HW.out.trans (HB3.out.mono (by rw [hz2]; exact HW0.out.size))).setCell hn _) ?_ ?_ ?_ ?_ ?_ hA hvB <;> (go_simp <;> rfl)
theorem Comes.mono {P : Program} {it : List Item} {Q Q' : List Item -> Act -> World -> Prop} {a : Act} {w : World} (h : Comes P it Q a w) (hQ : ∀ it a w, Q it a w -> Q' it a w) : Comes P it Q' a w := fun b k cs =>
 let ⟨it', a', w', q, s⟩ := h b k cs
 ⟨it', a', w', hQ _ _ _ q, s⟩
theorem kid_lone (V : BkV) (B : Bk) (hB : B.Fine) (bb hb trb h tb tofs tcap c3 c4 : Nat) (T : Nat -> Int) (vA vB : Value) (w : World) (hat : BkAt w V B) (hT : TrAt w tb tofs B.links.length T) (hh : (h : Int) < B.hours) (hk : KidAt w V B bb hb trb h tb tofs tcap)
  (e3 : w.cell? ⟨c3, 0, none⟩ = some vB) (e4 : w.cell? ⟨c4, 0, none⟩ = some vA) (hA : ∃ x, vA = .chan x) (hvB : ∃ x, vB = .chan x) :
  Comes tP [.code (Tryd.f100.body.getD .skip)] (KidEnd B T h vA vB w) ⟨#[.pointer (some ⟨bb, 0, none⟩), .pointer (some ⟨hb, 0, none⟩), .pointer (some ⟨trb, 0, none⟩), .pointer (some ⟨c3, 0, none⟩), .pointer (some ⟨c4, 0, none⟩), ud, ud, ud, ud, ud, ud, ud, ud, ud, ud, ud, ud, ud, ud, ud, ud, ud, ud, ud, ud, ud, ud, ud, ud, ud, ud, ud, ud, ud, ud, ud, ud, ud, ud, ud, ud, ud], []⟩ w := by
 show Comes tP [.code (.seq (.region 0 kops true) kbody)] _ _ _
 refine comes_seq (kid_r0 V B hB bb hb trb h tb tofs tcap T _ _ w hat hT hh hk _ (fun _ _ _ _ hq => hq) fun b5 b6 w1 hb1 _ _ _ _ _ x5 x6 => ?_)
 obtain ⟨id, ops, rest, he⟩ : ∃ id ops rest, kbody = .seq (.region id ops true) rest := ⟨_, _, _, rfl⟩
 show Comes tP [.code kbody] _ _ _
 rw [he]
 refine comes_seq (kid_r1 V B hB bb hb trb h tb tofs tcap b5 b6 T _ _ w1 (hT.below hb1 (nR _)) (hk.below hb1 (nR _)) x5 id ops rest he _ fun b7 y8 y9 y10 y11 y12 y13 y14 y15 y16 y17 y18 y19 y20 y21 y22 y23 w2 hb2 hn x7 => ?_)
 refine (kid_r2 V B hB bb hb trb h tb tofs tcap b5 b6 b7 c3 c4 T y8 y9 y10 y11 y12 y13 y14 y15 y16 y17 y18 y19 y20 y21 y22 y23 vA vB w1 w2 hb2 hn (hT.below hb1 (nR _)) (hk.below hb1 (nR _)) x5 x6 x7 (cell_below hb1 e3 (nR _)) (cell_below hb1 e4 (nR _)) hA hvB id ops rest he).mono ?_
 rintro it a w' ⟨hb', x⟩
 exact ⟨hb1.trans (hb'.mono hb1.size), x⟩
end Go.Proofs.YtaikibfkggglgaaDoor
namespace Go.Tp
open Go.Conc
section
def RowIn (D : Nat -> Prop) (u : World) (b : Nat) : Prop := D b /\ ∃ c t z, u.heap[b]? = some (.cells c t z)
def NeatV (F : FuncId -> Bool) (K : Nat -> Prop) : Value -> Prop
 | .bool _ | .int .. | .string _ | .pointer none | .slice none .. | .chan _ | .nilFunc | .nilIface => True
 | .pointer (some a) => K a.block
 | .slice (some a) _ _ => K a.block
 | .func (.func f) a c => F f = true /\ a = #[] /\ c = #[]
 | _ => False
open Classical in
noncomputable def shade (F : FuncId -> Bool) (K : Nat -> Prop) : Value -> Value
 | .agg c => .agg (c.attach.map fun x => shade F K x.1)
 | .tuple c => .tuple (c.attach.map fun x => shade F K x.1)
 | v => if NeatV F K v then v else .tuple #[]
termination_by v => v
decreasing_by
 all_goals
  have h := Array.sizeOf_lt_of_mem x.2
  simp_wf
  omega
open Classical in
theorem shade_flat {F : FuncId -> Bool} {K : Nat -> Prop} {v : Value} (h1 : ∀ c, v = .agg c -> False) (h2 : ∀ c, v = .tuple c -> False) : shade F K v = if NeatV F K v then v else .tuple #[] := by
 rw [shade]
 ·exact h1
 ·exact h2
theorem shade_neat {F : FuncId -> Bool} {K : Nat -> Prop} {v : Value} (h : NeatV F K v) : shade F K v = v := by
 rw [shade_flat (fun c e => by subst e; exact h) (fun c e => by subst e; exact h), if_pos h]
def RK (D : Nat -> Prop) (u : World) : Rl := ⟨fun b b' => b = b' /\ RowIn D u b, fun r r' => r = r', fun _ => False⟩
theorem NeatV.vr {F : FuncId -> Bool} {D : Nat -> Prop} {u : World} {v : Value} (h : NeatV F (RowIn D u) v) : VR F (RK D u) v v := by
 cases v with
 | bool b => exact .bool b
 | int k n => exact .int k n
 | string s => exact .string s
 | pointer a => cases a with
  | none => exact .nilPointer
  | some a => obtain ⟨b, o, s⟩ := a; exact .pointer (.mk o s ⟨rfl, h⟩)
 | slice a n c => cases a with
  | none => exact .nilSlice n c
  | some a => obtain ⟨b, o, s⟩ := a; exact .slice n c (.mk o s ⟨rfl, h⟩)
 | chan r => cases r with
  | none => exact .nilChan
  | some r => exact .chan rfl
 | func f a c => cases f with
  | func f =>
   obtain ⟨h1, rfl, rfl⟩ := h
   exact .func f h1 rfl (fun i v v' e => by simp at e) rfl (fun i v v' e => by simp at e)
  | _ => exact h.elim
 | nilFunc => exact .nilFunc
 | nilIface => exact .nilIface
 | _ => exact h.elim
theorem shade_vr_flat {F : FuncId -> Bool} {D : Nat -> Prop} {u : World} {v : Value} (h1 : ∀ c, v = .agg c -> False) (h2 : ∀ c, v = .tuple c -> False) : VR F (RK D u) (shade F (RowIn D u) v) v := by
 by_cases hn : NeatV F (RowIn D u) v
 ·rw [shade_neat hn]; exact hn.vr
 ·rw [shade_flat h1 h2, if_neg hn]
  refine .poison ?_
  cases v with
  | agg c => exact h1 c rfl
  | tuple c => exact h2 c rfl
  | bool b => exact hn trivial
  | _ => exact trivial
theorem shade_vr {F : FuncId -> Bool} {D : Nat -> Prop} {u : World} (v : Value) : VR F (RK D u) (shade F (RowIn D u) v) v := by
 match v with
 | .agg c =>
  rw [shade]
  refine .agg (by simp) fun i x x' h h' => ?_
  have hm := Array.mem_of_getElem? h'
  rw [Array.getElem?_map] at h
  obtain ⟨y, hy, rfl⟩ := Option.map_eq_some_iff.1 h
  have : y.1 = x' := by
   have := congrArg (Option.map Subtype.val) hy
   simp [h'] at this
   exact this.symm
  rw [this]
  exact shade_vr x'
 | .tuple c =>
  rw [shade]
  refine .tuple (by simp) fun i x x' h h' => ?_
  have hm := Array.mem_of_getElem? h'
  rw [Array.getElem?_map] at h
  obtain ⟨y, hy, rfl⟩ := Option.map_eq_some_iff.1 h
  have : y.1 = x' := by
   have := congrArg (Option.map Subtype.val) hy
   simp [h'] at this
   exact this.symm
  rw [this]
  exact shade_vr x'
 | .bool _ | .int .. | .float .. | .complex .. | .string _ | .pointer _ | .slice .. | .map _ | .chan _ | .func .. | .nilFunc | .iface .. | .nilIface => exact shade_vr_flat (fun c e => by cases e) (fun c e => by cases e)
termination_by v
decreasing_by
 all_goals
  have h := Array.sizeOf_lt_of_mem hm
  simp_wf
  omega
noncomputable def shut (F : FuncId -> Bool) (K : Nat -> Prop) : Obj -> Obj
 | .cells c t _ => .cells (c.map (shade F K)) t (0, c.size)
 | _ => .cells #[] 0 (0, 0)
noncomputable def frz (F : FuncId -> Bool) (D : Nat -> Prop) (u : World) : World := { u with heap := u.heap.map (shut F (RowIn D u)) }
variable {F : FuncId -> Bool} {D : Nat -> Prop}
theorem frz_at (u : World) (b : Nat) : (frz F D u).heap[b]? = (u.heap[b]?).map (shut F (RowIn D u)) := by simp [frz]
theorem frz_size (u : World) : (frz F D u).heap.size = u.heap.size := by simp [frz]
theorem frz_cell {u : World} {a : Addr} {v : Value} (h : u.cell? a = some v) (hn : NeatV F (RowIn D u) v) : (frz F D u).cell? a = some v := by
 unfold World.cell? at h ⊢
 rw [frz_at]
 cases e : u.heap[a.block]? with
 | none => rw [e] at h; cases h
 | some o =>
  rw [e] at h
  cases o with
  | cells c t z =>
   simp only [Option.map_some, shut] at h ⊢
   split at h
   ·cases h
   ·rw [if_neg (by assumption), Array.getElem?_map, h, Option.map_some, shade_neat hn]
  | _ => cases h
theorem frz_started (u : World) : Started (frz F D u) := by
 intro n o h
 rw [frz_at] at h
 cases h' : u.heap[n]? with
 | none => rw [h'] at h; simp at h
 | some x =>
  rw [h'] at h
  simp only [Option.map_some, oI] at h
  subst h
  cases x <;> simp [shut, Obj.started]
theorem row_of_cell {u : World} {a : Addr} {v : Value} (h : u.cell? a = some v) : ∃ c t z, u.heap[a.block]? = some (.cells c t z) := by
 unfold World.cell? at h
 cases e : u.heap[a.block]? with
 | none => rw [e] at h; cases h
 | some o =>
  rw [e] at h
  cases o with
  | cells c t z => exact ⟨c, t, z, rfl⟩
  | _ => cases h
theorem wr_frz {P : Program} {u : World} (hg : P.globals.size <= u.heap.size) : WR P F (RK D u) ((frz F D u).tp u.tape u.drawn noJ) u := by
 have hsz : ((frz F D u).tp u.tape u.drawn noJ).heap.size = u.heap.size := by rw [tp_size, frz_size]
 refine ⟨fun b b' h => ?_, fun b b1 b2 h1 h2 => h1.1.symm.trans h2.1, fun b1 b2 b' h1 h2 => h1.1.trans h2.1.symm, fun b b' o h hb => ?_, fun b b' h _ => h.1, rfl, rfl, by rw [hsz]; exact hg, hg⟩
 ·obtain ⟨rfl, _, c, t, z, h1⟩ := h
  rw [hsz]
  have := (aS.1 h1).1
  exact ⟨this, this⟩
 ·obtain ⟨rfl, _, c, t, z, h1⟩ := h
  rw [tp_heap, frz_at, h1] at hb
  simp only [Option.map_some, fillAt_noJ, oI] at hb
  subst hb
  refine ⟨.cells c t z, h1, .cells ⟨by simp, fun i v v' e e' => ?_⟩ (fun x => x.elim) (fun _ => by simp)⟩
  rw [Array.getElem?_map, e', Option.map_some, oI] at e
  subst e
  exact shade_vr v'
end
end Go.Tp
namespace Go.Tp
section
variable {P : Program}
theorem c_described (v : Value) : CalmT P (Extern.RuntimeError.described v) := by
 unfold Extern.RuntimeError.described
 refine calmT_bind (calm_program P) fun p => ?_
 split
 ·exact calm_pure _ _
 ·refine calmT_bind (c_typeStr P _) fun _ => ?_
  exact calmT_bind (c_typeInfo P _) fun _ => calm_pure _ _
 ·exact calm_stuck P _ _
theorem c_pkgpathOf (i : TypeInfo) : CalmT P (Extern.RuntimeError.pkgpathOf i) := by
 unfold Extern.RuntimeError.pkgpathOf
 (repeat' first
  | exact calm_pure _ _
  | exact IsCalm.out
  | (refine calmT_bind ?_ (fun _ => ?_))
  | split)
theorem c_boundsError (args : Array Value) : CalmT P (Extern.RuntimeError.boundsError args) := by
 obtain ⟨l⟩ := args
 rcases l with _ | ⟨a, _ | ⟨b, l⟩⟩ <;> try exact calm_stuck P _ _
 cases a <;> try exact calm_stuck P _ _
 rename_i c
 obtain ⟨c⟩ := c
 rcases c with _ | ⟨c1, _ | ⟨c2, _ | ⟨c3, _ | ⟨c4, _ | ⟨c5, c⟩⟩⟩⟩⟩ <;> try exact calm_stuck P _ _
 ·cases c1 <;> try exact calm_stuck P _ _
  cases c2 <;> try exact calm_stuck P _ _
  cases c3 <;> try exact calm_stuck P _ _
  cases c4 <;> try exact calm_stuck P _ _
  rename_i k1 x k2 y sg k3 cd
  show CalmT P (match (if (sg && decide (x < 0)) = true then Extern.RuntimeError.boundsNegErrorFmts else Extern.RuntimeError.boundsErrorFmts)[cd.toNat]? with | some fmt => Extern.RuntimeError.text _ | none => stuck "boundsError: no such code")
  cases (if (sg && decide (x < 0)) = true then Extern.RuntimeError.boundsNegErrorFmts else Extern.RuntimeError.boundsErrorFmts)[cd.toNat]? with
  | some fmt => exact calm_pure _ _
  | none => exact calm_stuck P _ _
theorem c_typeAssertionError (args : Array Value) : CalmT P (Extern.RuntimeError.typeAssertionError args) := by
 haveI : ∀ v, IsCalm P (Extern.RuntimeError.described v) := fun v => ⟨c_described v⟩
 haveI : ∀ i, IsCalm P (Extern.RuntimeError.pkgpathOf i) := fun i => ⟨c_pkgpathOf i⟩
 unfold Extern.RuntimeError.typeAssertionError Extern.RuntimeError.text
 (repeat' first
  | exact calm_pure _ _
  | exact IsCalm.out
  | (refine calmT_bind ?_ (fun _ => ?_))
  | (refine calm_ite (fun _ => ?_) (fun _ => ?_))
  | split
  | dsimp only)
theorem c_unhashable (args : Array Value) : CalmT P (Extern.RuntimeError.unhashableTypeError args) := by
 obtain ⟨l⟩ := args
 rcases l with _ | ⟨a, _ | ⟨b, l⟩⟩ <;> try exact calm_stuck P _ _
 cases a <;> try exact calm_stuck P _ _
 rename_i c
 obtain ⟨c⟩ := c
 rcases c with _ | ⟨c1, _ | ⟨c2, c⟩⟩ <;> try exact calm_stuck P _ _
 refine calmT_bind (c_described c1) fun r => ?_
 cases r with
 | none => exact c_runtimePanic P _
 | some t => exact calm_pure _ _
theorem c_rtRows {n : String} {e : Array Value -> Sem Value} (h : (n, e) ∈ Extern.RuntimeError.rows) (args : Array Value) : CalmT P (e args) := by
 simp only [Extern.RuntimeError.rows, List.mem_cons, List.not_mem_nil, or_false, Prod.mk.injEq] at h
 rcases h with ⟨_, rfl⟩ | ⟨_, rfl⟩ | ⟨_, rfl⟩ | ⟨_, rfl⟩ | ⟨_, rfl⟩ | ⟨_, rfl⟩ | ⟨_, rfl⟩ | ⟨_, rfl⟩ | ⟨_, rfl⟩ | ⟨_, rfl⟩ | ⟨_, rfl⟩ | ⟨_, rfl⟩ | ⟨_, rfl⟩ | ⟨_, rfl⟩ | ⟨_, rfl⟩
 ·exact calmT_bind (c_asString P _) fun _ => calm_pure _ _
 ·exact calmT_bind (c_asString P _) fun _ => calm_pure _ _
 ·exact calmT_bind (c_asAgg P _) fun _ => calmT_bind (c_asString P _) fun _ => calm_pure _ _
 ·exact calmT_bind (c_asAgg P _) fun _ => calmT_bind (c_asInt P _) fun _ => calm_pure _ _
 ·exact c_boundsError args
 ·exact c_typeAssertionError args
 ·exact calm_pure _ _
 ·exact c_unhashable args
 all_goals exact calm_pure _ _
def FnCalm (P : Program) (fn : Func) : Prop := (fn.name == "runtime.NumGoroutine") = false /\ (fn.body.isSome = true \/ (Extern.findNext fn = none /\ (Extern.find fn = none \/ ∃ e, Extern.find fn = some e /\ ∀ args, CalmT P (e args))))
theorem funcsCalm_of (h : ∀ (f : FuncId) (fn : Func), P.funcs[f]? = some fn -> FnCalm P fn) : FuncsCalm P := by
 intro f args
 show Calm P NextOk (callFunc f args)
 unfold callFunc
 show Calm P NextOk (match P.funcs[f]? with
  | none => _
  | some fn => _)
 cases hf : P.funcs[f]? with
 | none => exact calm_stuck P _ _
 | some fn =>
  obtain ⟨h1, h2⟩ := h f fn hf
  dsimp only
  rw [h1]
  simp only [Bool.false_eq_true, if_false]
  rcases h2 with h2 | ⟨h2, h3⟩
  ·have : fn.body.isNone = false := by cases hb : fn.body <;> simp_all
   rw [this]
   simp only [Bool.false_eq_true, if_false]
   exact trivial
  ·cases hb : fn.body with
   | some b => exact trivial
   | none =>
    simp only [Option.isNone_none, if_true, h2]
    refine calmT_bind (calm_markExtern P f) fun _ => ?_
    rcases h3 with h3 | ⟨e, h3, h4⟩
    ·rw [h3]
     dsimp only
     split
     ·exact trivial
     ·exact trivial
    ·rw [h3]
     exact calm_value (h4 args)
def Outs {α : Type} (P : Program) (A : α -> Prop) (s : Sem α) : Prop := ∀ w es a w1 es1, s.runT P w es = (.ok a w1, es1) -> A a
theorem outs_bind {α β : Type} {A : α -> Prop} {B : β -> Prop} {s : Sem α} {f : α -> Sem β} (h : Outs P A s) (hf : ∀ a, A a -> Outs P B (f a)) : Outs P B (s >>= f) := by
 intro w es b w1 es1 hr
 rw [runT_bind] at hr
 cases hs : s.runT P w es with
 | mk r es2 =>
  rw [hs] at hr
  cases r with
  | ok a w2 => exact hf a (h _ _ _ _ _ hs) _ _ _ _ _ hr
  | halt x w2 => cases hr
theorem outs_true {α : Type} (s : Sem α) : Outs P (fun _ => True) s := fun _ _ _ _ _ _ => trivial
theorem outs_pure {α : Type} {A : α -> Prop} {a : α} (h : A a) : Outs P A (pure a) := fun _ _ _ _ _ hr => by cases hr; exact h
theorem outs_halt {α : Type} {A : α -> Prop} (x : Halt) : Outs P A (.halt x : Sem α) := fun _ _ _ _ _ hr => by cases hr
theorem outs_typeInfo (t : TypeId) : Outs P (fun i => P.info? t = some i) (typeInfo t) := by
 intro w es a w1 es1 hr
 have : (typeInfo t).runT P w es = (match P.info? t with | some i => (pure i : Sem TypeInfo) | none => stuck "no such type").runT P w es := rfl
 rw [this] at hr
 cases h : P.info? t with
 | none => rw [h] at hr; cases hr
 | some i => rw [h] at hr; cases hr; rfl
def OfRow (P : Program) (s : String) (f : FuncId) : Prop := ∃ t i m b, P.info? t = some i /\ m ∈ i.methods /\ m.func = some (f, b) /\ m.name = s
theorem outs_method : ∀ (n : Nat) (t : TypeId) (v : Value) (s : String), Outs P (fun r => OfRow P s r.1) (method n t v s)
 | 0, _, _, _ => outs_halt _
 | n + 1, t, v, s => by
  unfold method
  refine outs_bind (outs_typeInfo t) fun i hi => ?_
  cases hm : i.methods.find? (fun x => x.name == s) with
  | none => exact outs_halt _
  | some m =>
   dsimp only
   refine outs_bind (outs_true _) fun r _ => ?_
   obtain ⟨xt, x⟩ := r
   dsimp only
   cases hf : m.func with
   | none =>
    refine outs_bind (outs_true _) fun y _ => ?_
    cases y with
    | iface t' v' => exact outs_method n t' v' s
    | nilIface => exact fun w es a w1 es1 hr => absurd hr (noOk_runtimePanic (P := P) .nilDeref w es a w1 es1)
    | _ => exact outs_halt _
   | some q =>
    obtain ⟨f, b⟩ := q
    exact outs_bind (outs_true _) fun _ _ => outs_pure ⟨t, i, m, b, hi, Array.mem_of_find?_eq_some hm, hf, by have := Array.find?_some hm; simpa using this⟩
theorem reckonStruct_methods {info : TypeId -> Option TypeInfo} {fs : Array Field} {i : TypeInfo} (h : Made.reckonStruct info fs = some i) : i.methods = #[] := by
 unfold Made.reckonStruct at h
 simp only [bind, Option.bind_eq_some_iff] at h
 obtain ⟨_, _, h⟩ := h
 (repeat' split at h) <;> first
  | (simp only [pure, oI] at h; subst h; rfl)
  | (simp only [Option.bind_eq_some_iff, pure, oI] at h; obtain ⟨_, _, h⟩ := h; subst h; rfl)
theorem reckon_methods {info : TypeId -> Option TypeInfo} {d : TypeDesc} {i : TypeInfo} (h : Made.reckon info d = some i) : i.methods = #[] := by
  unfold Made.reckon at h
  cases d <;> first
    | (cases h; done)
    | exact reckonStruct_methods h
    | (simp only [bind, Option.bind_eq_some_iff, pure, oI] at h
       obtain ⟨_, _, h⟩ := h
       (repeat' split at h) <;> first
         | (cases h; done)
         | (subst h; rfl)
         | (obtain ⟨_, _, h⟩ := h; subst h; rfl)
         | (simp only [Option.bind_eq_some_iff] at h; obtain ⟨_, _, h⟩ := h; first | (subst h; rfl) | (simp only [oI] at h; subst h; rfl)))
    | (simp only [bind, Option.bind_eq_some_iff, pure, oI] at h
       obtain ⟨_, _, _, _, _, _, _, _, h⟩ := h
       subst h; rfl)
theorem infoAt_methods (T : Tables) : ∀ (n : Nat) (t : TypeId) (i : TypeInfo), Made.infoAt T n t = some i -> i ∈ T.types \/ i.methods = #[]
 | 0, _, _, h => by cases h
 | n + 1, t, i, h => by
  unfold Made.infoAt at h
  split at h
  ·exact .inl (Array.mem_of_getElem? h)
  ·simp only [Option.bind_eq_some_iff] at h
   obtain ⟨_, _, h⟩ := h
   exact .inr (reckon_methods h)
theorem info_methods (T : Tables) {t : TypeId} {i : TypeInfo} (h : T.info? t = some i) : i ∈ T.types \/ i.methods = #[] := by
 unfold Tables.info? at h
 split at h
 ·exact .inl (Array.mem_of_getElem? h)
 ·exact infoAt_methods T _ _ _ h
theorem panicText_name {v : Value} {t : TypeId} {recv : Value} {name : String} (h : panicText P false v = .call t recv name) : name = "Error" \/ name = "String" := by
 cases v with
 | iface t0 v0 =>
  unfold panicText at h
  dsimp only at h
  cases hi : P.info? t0 with
  | none => rw [hi] at h; cases h
  | some info =>
   rw [hi] at h
   dsimp only at h
   split at h
   ·rename_i m _ hm
    cases h
    try simp only [Bool.false_eq_true, if_false] at hm
    have := Array.find?_some hm
    simp only [Bool.and_eq_true, beq_iff_eq] at this
    exact .inl this.1
   ·rename_i m _ hm
    cases h
    try simp only [Bool.false_eq_true, if_false] at hm
    have := Array.find?_some hm
    simp only [Bool.and_eq_true, beq_iff_eq] at this
    exact .inr this.1
   ·(repeat' split at h) <;> cases h
 | _ => cases h
theorem noEnter_of (h : ∀ f, (OfRow P "Error" f \/ OfRow P "String" f) -> ∃ fn, P.funcs[f]? = some fn /\ fn.body = none /\ (Extern.findNext fn).isNone = true) : ∀ todo, NoEnter P todo := by
 intro todo x _ t recv name hpt w f args w' hr
 have hname := panicText_name hpt
 have key : Outs P (fun n => ∀ f a, n ≠ .enter f a) (invoke (.fn (.method name) #[]) #[.iface t recv]) := by
  show Outs P _ (callMethod (.iface t recv) name (#[.iface t recv].extract 1 1))
  unfold callMethod
  refine outs_bind (outs_true (P := P) program) fun p _ => ?_
  refine outs_bind (outs_method _ t recv name) fun r hr => ?_
  obtain ⟨fn, h1, h2, h3⟩ := h r.1 (hname.elim (fun e => .inl (by rw [<- e]; exact hr)) fun e => .inr (by rw [<- e]; exact hr))
  intro w es a w1 es1 hx f b e
  subst e
  have := callFunc_not_enter h1 h2 h3 (#[r.2] ++ (#[Value.iface t recv].extract 1 1)) w f b w1
  rw [Sem.runT_eq] at hx
  exact this (Prod.mk.inj hx).1
 exact key w #[] (.enter f args) w' _ (Prod.ext hr rfl) f args rfl
end
end Go.Tp
namespace Go.Proofs.YtaikibfkggglgaaDoor
open Go.Tp
set_option maxRecDepth 100000
def bare : List Nat := [0, 1, 128, 129, 130, 131, 132, 133, 134, 135, 136, 137, 138, 139, 140, 141, 142, 143, 161, 162, 163, 164, 165]
theorem bare_all : ((List.range 167).all fun f => match tP.funcs[f]? with
  | some fn => !(fn.name == "runtime.NumGoroutine") && (fn.body.isSome || bare.contains f)
  | none => true) = true := by kernel_rfl
theorem size_funcs : tP.funcs.size = 167 := by kernel_rfl
theorem bare_next : (bare.all fun f => match tP.funcs[f]? with
  | some fn => (Extern.findNext fn).isNone
  | none => false) = true := by kernel_rfl
theorem bare_find : ([0, 1, 140, 161, 162, 163, 164, 165].all fun f => match tP.funcs[f]? with
  | some fn => (Extern.find fn).isNone
  | none => false) = true := by kernel_rfl
theorem find128 : Extern.find Tryd.f128 = Extern.RuntimeError.rows.lookup "(runtime.boundsError).Error" := by kernel_rfl
theorem find129 : Extern.find Tryd.f129 = Extern.RuntimeError.rows.lookup "(runtime.boundsError).RuntimeError" := by kernel_rfl
theorem find130 : Extern.find Tryd.f130 = Extern.RuntimeError.rows.lookup "(runtime.errorString).Error" := by kernel_rfl
theorem find131 : Extern.find Tryd.f131 = Extern.RuntimeError.rows.lookup "(runtime.errorString).RuntimeError" := by kernel_rfl
theorem find132 : Extern.find Tryd.f132 = Extern.RuntimeError.rows.lookup "(runtime.plainError).Error" := by kernel_rfl
theorem find133 : Extern.find Tryd.f133 = Extern.RuntimeError.rows.lookup "(runtime.plainError).RuntimeError" := by kernel_rfl
theorem find134 : Extern.find Tryd.f134 = Extern.RuntimeError.rows.lookup "(runtime.errorAddressString).Error" := by kernel_rfl
theorem find135 : Extern.find Tryd.f135 = Extern.RuntimeError.rows.lookup "(runtime.errorAddressString).RuntimeError" := by kernel_rfl
theorem find136 : Extern.find Tryd.f136 = Extern.RuntimeError.rows.lookup "(*runtime.TypeAssertionError).Error" := by kernel_rfl
theorem find137 : Extern.find Tryd.f137 = Extern.RuntimeError.rows.lookup "(*runtime.TypeAssertionError).RuntimeError" := by kernel_rfl
theorem find138 : Extern.find Tryd.f138 = Extern.RuntimeError.rows.lookup "(*runtime.PanicNilError).Error" := by kernel_rfl
theorem find139 : Extern.find Tryd.f139 = Extern.RuntimeError.rows.lookup "(*runtime.PanicNilError).RuntimeError" := by kernel_rfl
theorem find141 : Extern.find Tryd.f141 = Extern.RuntimeError.rows.lookup "(internal/runtime/maps.unhashableTypeError).Error" := by kernel_rfl
theorem find142 : Extern.find Tryd.f142 = Extern.RuntimeError.rows.lookup "(internal/runtime/maps.unhashableTypeError).RuntimeError" := by kernel_rfl
theorem find143 : Extern.find Tryd.f143 = some (fun args => do pure (strVal (Extern.Rtype.kindName (<- asInt (args.getD 0 (.tuple #[]))).toNat))) := by kernel_rfl
theorem lookup_mem {α : Type} {n : String} {e : α} : ∀ {l : List (String × α)}, l.lookup n = some e -> ∃ n', (n', e) ∈ l
 | [], h => by cases h
 | (m, x) :: l, h => by
  rw [List.lookup_cons] at h
  split at h
  ·cases h; exact ⟨m, List.mem_cons_self ..⟩
  ·obtain ⟨n', hn⟩ := lookup_mem h; exact ⟨n', List.mem_cons_of_mem _ hn⟩
theorem calm_of_rows {fn : Func} {n : String} (h : Extern.find fn = Extern.RuntimeError.rows.lookup n) : Extern.find fn = none \/ ∃ e, Extern.find fn = some e /\ ∀ args, CalmT tP (e args) := by
 rw [h]
 cases hl : Extern.RuntimeError.rows.lookup n with
 | none => exact .inl rfl
 | some e =>
  obtain ⟨n', hm⟩ := lookup_mem hl
  exact .inr ⟨e, rfl, fun args => c_rtRows hm args⟩
theorem calm143 : Extern.find Tryd.f143 = none \/ ∃ e, Extern.find Tryd.f143 = some e /\ ∀ args, CalmT tP (e args) :=
 .inr ⟨_, find143, fun _ => calmT_bind (c_asInt tP _) fun _ => calm_pure _ _⟩
theorem bare_calm (f : Nat) (hf : f ∈ bare) (fn : Func) (h : tP.funcs[f]? = some fn) : Extern.find fn = none \/ ∃ e, Extern.find fn = some e /\ ∀ args, CalmT tP (e args) := by
 have key : ∀ g, tP.funcs[f]? = some g -> fn = g := fun g hg => Option.some.inj (h.symm.trans hg)
 have hn := bare_find
 rw [List.all_eq_true] at hn
 have no : f ∈ [0, 1, 140, 161, 162, 163, 164, 165] -> Extern.find fn = none := fun hm => by
  have := hn f hm
  rw [h] at this
  exact Option.isNone_iff_eq_none.1 this
 simp only [bare, List.mem_cons, List.not_mem_nil, or_false] at hf
 rcases hf with rfl | rfl | rfl | rfl | rfl | rfl | rfl | rfl | rfl | rfl | rfl | rfl | rfl | rfl | rfl | rfl | rfl | rfl | rfl | rfl | rfl | rfl | rfl
 ·exact .inl (no (by simp))
 ·exact .inl (no (by simp))
 ·rw [key _ Tryd.func128]; exact calm_of_rows find128
 ·rw [key _ Tryd.func129]; exact calm_of_rows find129
 ·rw [key _ Tryd.func130]; exact calm_of_rows find130
 ·rw [key _ Tryd.func131]; exact calm_of_rows find131
 ·rw [key _ Tryd.func132]; exact calm_of_rows find132
 ·rw [key _ Tryd.func133]; exact calm_of_rows find133
 ·rw [key _ Tryd.func134]; exact calm_of_rows find134
 ·rw [key _ Tryd.func135]; exact calm_of_rows find135
 ·rw [key _ Tryd.func136]; exact calm_of_rows find136
 ·rw [key _ Tryd.func137]; exact calm_of_rows find137
 ·rw [key _ Tryd.func138]; exact calm_of_rows find138
 ·rw [key _ Tryd.func139]; exact calm_of_rows find139
 ·exact .inl (no (by simp))
 ·rw [key _ Tryd.func141]; exact calm_of_rows find141
 ·rw [key _ Tryd.func142]; exact calm_of_rows find142
 ·rw [key _ Tryd.func143]; exact calm143
 ·exact .inl (no (by simp))
 ·exact .inl (no (by simp))
 ·exact .inl (no (by simp))
 ·exact .inl (no (by simp))
 ·exact .inl (no (by simp))
theorem fnCalm (f : FuncId) (fn : Func) (h : tP.funcs[f]? = some fn) : FnCalm tP fn := by
 have hlt : f < 167 := by rw [<- size_funcs]; exact (aS.1 h).1
 have h1 := bare_all
 rw [List.all_eq_true] at h1
 have h2 := h1 f (List.mem_range.2 hlt)
 rw [h] at h2
 simp only [Bool.and_eq_true, Bool.not_eq_true', Bool.or_eq_true] at h2
 refine ⟨h2.1, h2.2.imp (fun x => x) fun hb => ?_⟩
 have hm : f ∈ bare := by simpa using hb
 have h3 := bare_next
 rw [List.all_eq_true] at h3
 have h4 := h3 f hm
 rw [h] at h4
 exact ⟨Option.isNone_iff_eq_none.1 h4, bare_calm f hm fn h⟩
theorem rows_bare : (tP.types.toList.all fun i => i.methods.toList.all fun m => match m.func with
  | none => true
  | some (f, _) => !(m.name == "Error" || m.name == "String") || match tP.funcs[f]? with
   | some fn => fn.body.isNone && (Extern.findNext fn).isNone
   | none => false) = true := by kernel_rfl
theorem ofRow_bare (f : Nat) (h : OfRow tP "Error" f \/ OfRow tP "String" f) : ∃ fn, tP.funcs[f]? = some fn /\ fn.body = none /\ (Extern.findNext fn).isNone = true := by
 have key : ∀ s, (s == "Error" || s == "String") = true -> OfRow tP s f -> ∃ fn, tP.funcs[f]? = some fn /\ fn.body = none /\ (Extern.findNext fn).isNone = true := by
  rintro s hs ⟨t, i, m, b, h1, h2, h3, rfl⟩
  rcases info_methods tP.toTables h1 with hi | hi
  ·have h4 := rows_bare
   rw [List.all_eq_true] at h4
   have h5 := h4 i (by simpa using hi)
   rw [List.all_eq_true] at h5
   have h6 := h5 m (by simpa using h2)
   rw [h3] at h6
   simp only [hs, Bool.not_true, Bool.false_or] at h6
   cases hf : tP.funcs[f]? with
   | none => rw [hf] at h6; cases h6
   | some fn =>
    rw [hf] at h6
    simp only [Bool.and_eq_true] at h6
    exact ⟨fn, rfl, Option.isNone_iff_eq_none.1 h6.1, h6.2⟩
  ·rw [hi] at h2; simp at h2
 rcases h with h | h
 ·exact key _ rfl h
 ·exact key _ rfl h
theorem bodies_ok : (tP.funcs.toList.all fun fn => match fn.body with
  | none => true
  | some c => codeOk true c) = true := by kernel_rfl
theorem no_step : (tP.funcs.toList.all fun fn => match fn.body with
  | none => true
  | some c => (readies c).isEmpty) = true := by kernel_rfl
theorem ahead : tP.follows .staticDataAhead = true := by kernel_rfl
theorem good : Go.Tp.Good tP where
 funcs := funcsCalm_of fnCalm
 bodies := fun f fn c hf hc => by
  have h := bodies_ok
  rw [List.all_eq_true] at h
  have := h fn (by simpa using Array.mem_of_getElem? hf)
  rw [hc] at this
  exact this
 ahead := ahead
 noStep := fun g => by
  unfold Program.stepOf
  rw [Array.findIdx?_eq_none_iff]
  intro fn hfn
  have h := no_step
  rw [List.all_eq_true] at h
  have := h fn (by simpa using hfn)
  cases hb : fn.body with
  | none => rfl
  | some c =>
   rw [hb] at this
   simp only [Option.map_some, Option.any_some]
   have : readies c = [] := by simpa using this
   rw [this]; rfl
 noEnter := noEnter_of ofRow_bare
def kidFns (f : FuncId) : Bool := [57, 70, 71, 88, 93, 100, 102, 144, 145].contains f
def kidVars (g : Nat) : Bool := g == 0 || g == 1
theorem kid_check : ([57, 70, 71, 88, 93, 100, 102, 144, 145].all fun f => match tP.funcs[f]? with
  | some fn => match fn.body with
   | some b => !(fn.name == "runtime.NumGoroutine") && codeC tP kidFns kidVars b && (tP.inits.idxOf? f).isNone
   | none => false
  | none => false) = true := by kernel_rfl
theorem kid_fc : FC tP kidFns kidVars := by
 refine ⟨fun f hf => ?_⟩
 have h := kid_check
 rw [List.all_eq_true] at h
 have h1 := h f (by simpa [kidFns] using hf)
 cases e : tP.funcs[f]? with
 | none => rw [e] at h1; cases h1
 | some fn =>
  rw [e] at h1
  dsimp only at h1
  cases e2 : fn.body with
  | none => rw [e2] at h1; cases h1
  | some b =>
   rw [e2] at h1
   simp only [Bool.and_eq_true, Bool.not_eq_true'] at h1
   exact ⟨fn, b, rfl, e2, h1.1.1, h1.1.2, Option.isNone_iff_eq_none.1 h1.2⟩
end Go.Proofs.YtaikibfkggglgaaDoor
