/- A part of the proof of RentMoreTrunks; no conditions of its own. -/
import Derived.Test.YtaikibfkggglgaaDoorX14
import Derived.Test.YtaikibfkggglgaaDoorX03
set_option maxRecDepth 100000
open Go renaming undef → ud
open Nat renaming le_refl → nR
open Go.Proofs.Tryd renaming prog → tP
open List renaming getElem?_eq_getElem → lG
open Array renaming getElem?_eq_some_iff → aS
open Go.World renaming block_lt_of_cell? → wBk
open List renaming getD_eq_getElem?_getD → lD
namespace Go.Tp
open Go.Conc Go.RowKit
def baseN (f : FuncId) : Frame := { (default : Frame) with fn := f, kind := .normal }
abbrev backG (c : Frame) (cs : List Frame) (v : Value) : Goroutine := { frame := c.finish v, callers := cs, status := .running, dying := none }
theorem enter_base {P : Program} {f : FuncId} {fn : Func} {c : Code} (args : Array Value) (hf : P.funcs[f]? = some fn) (hb : fn.body = some c) :
  Frame.enter P f args .normal = (baseN f).at { tmps := args ++ Array.replicate (fn.ntmps - args.size) ud, defers := [] } [.code c] := by
 simp [Frame.enter, Frame.at, hf, hb, baseN]
theorem wpOps_value {P : Program} {ops : Array Oper} {Q : Exit -> Act -> World -> Prop} {i : Nat} {rest : List Nat} {o : Oper} {a : Act} {w w' : World} {v : Value} (ho : ops[i]? = some o) (hw : Region.wanted o (yielded ops a.tmps) = true)
  (hr : (execOp a.eval o).run P w = .ok (.value v) w') (h : wpOps P ops Q rest (a.put o.dst v) w') : wpOps P ops Q (i :: rest) a w := by
 unfold wpOps
 simp only [ho]
 rw [if_pos hw]
 refine .inl ?_
 unfold Oper.wp
 rw [hr]
 exact h
theorem run_rest {P : Program} (G' : Good P) {f : FuncId} {fn : Func} {x : Code} {a : Act} {c : Frame} {cs : List Frame} {w : World} {R : Value -> World -> Prop} (hf : P.funcs[f]? = some fn)
    (hfine : Fine (G ((baseN f).at a [.code x]) (c :: cs)) w) (hR : ∀ v w τ d, R v (w.tp τ d noJ) -> R v w)
    (h : ∀ τ, x.wp P (bodyPost P fn fun e w' => ∃ v, e = .returned v /\ R v w') a (w.tp τ 0 noJ)) :
    Run P (StopF fun g w' => ∃ v, g = backG c cs v /\ R v w') (G ((baseN f).at a [.code x]) (c :: cs)) w := by
  refine run_of_lone G' (fun g w τ d ⟨v, e, r⟩ => ⟨v, e, hR _ _ _ _ r⟩) hfine fun τ => ?_
  obtain ⟨e, a', w', hq, harr⟩ := h τ (baseN f) [] (c :: cs)
  have fin : ∀ fr, Steps P (lone ((baseN f).at a [.code x]) (c :: cs) (w.tp τ 0 noJ)) (lone fr (c :: cs) w') -> ∀ v, fr.leaving P w' (.returned v) -> R v w' ->
      ∃ n m', runN P n (oneG (G ((baseN f).at a [.code x]) (c :: cs)) (w.tp τ 0 noJ)) = .next m' /\ StopM (fun g w' => ∃ v, g = backG c cs v /\ R v w') m' := by
    intro fr hs v hl hr
    obtain ⟨n, hn⟩ := hs.trans (.one (step_leave_returned hl))
    exact ⟨n, _, hn, _, w', rfl, rfl, rfl, v, rfl, hr⟩
  cases e with
  | normal =>
    obtain ⟨hd, v, hr, v', e, hR'⟩ := hq
    cases e
    exact fin _ (Steps.trans harr (.one step_end)) v ⟨rfl, hd, rfl, fn, hf, hr⟩ hR'
  | ret =>
    obtain ⟨hd, v, hr, v', e, hR'⟩ := hq
    cases e
    obtain ⟨todo, hs⟩ := harr
    exact fin _ hs v ⟨rfl, hd, rfl, fn, hf, hr⟩ hR'
  | panic chain => obtain ⟨_, v, e, _⟩ := hq; cases e
  | exit id => exact hq.elim
  | goto l => exact hq.elim
  | outgrown => obtain ⟨v, e, _⟩ := hq; cases e
end Go.Tp
namespace Go.Proofs.YtaikibfkggglgaaDoor
open Go.RowKit Go.Rent Go.Tp Go.Conc
def cutW (u : World) (n : Nat) : World := { u with heap := u.heap.extract 0 n }
theorem cutW_size {u : World} {n : Nat} (h : n <= u.heap.size) : (cutW u n).heap.size = n := by simp [cutW]; omega
theorem cutW_at {u : World} {n : Nat} {b : Nat} (h : b < n) : (cutW u n).heap[b]? = u.heap[b]? := by
 simp only [cutW]
 rw [Array.getElem?_extract]
 by_cases hb : b < u.heap.size
 ·rw [if_pos (by omega), Nat.zero_add]
 ·rw [if_neg (by omega), Array.getElem?_eq_none (by omega)]
theorem BkAt.old {w u : World} {V : BkV} {B : Bk} (h : BkAt w V B) (hk : ∀ b, b < w.heap.size -> ∀ o, u.cell? ⟨b, o, none⟩ = w.cell? ⟨b, o, none⟩) : BkAt u V B := by
 have e : ∀ {b o : Nat} {v : Value}, w.cell? ⟨b, o, none⟩ = some v -> u.cell? ⟨b, o, none⟩ = some v := fun {b o v} hc => by
  rw [hk b (wBk w _ hc)]; exact hc
 obtain ⟨h1, h2, h3⟩ := h
 constructor
 ·intro i t hi; obtain ⟨b, o, x, y⟩ := h1 i t hi; exact ⟨b, o, x, e y⟩
 ·intro i L hi; obtain ⟨b, o, sa, sc, x, y1, y2, y3, z⟩ := h2 i L hi
  exact ⟨b, o, sa, sc, x, e y1, e y2, e y3, fun k s hk' => by obtain ⟨b', o', p, q, r⟩ := z k s hk'; exact ⟨b', o', p, e q, e r⟩⟩
 ·intro i L hi; obtain ⟨b, o, sa, sc, x, y1, y2, y3, z⟩ := h3 i L hi
  exact ⟨b, o, sa, sc, x, e y1, e y2, e y3, fun k s hk' => by obtain ⟨b', o', p, q, r⟩ := z k s hk'; exact ⟨b', o', p, e q, e r⟩⟩
end Go.Proofs.YtaikibfkggglgaaDoor
namespace Go.Proofs.YtaikibfkggglgaaDoor
open Go.RowKit Go.Rent Go.Tp Go.Conc Go.ConcN
structure LkA (w : World) (V : BkV) (B : Bk) (tb tofs tcap bb trb rA rB b5 b6 : Nat) (w' : World) : Prop where
 kept : Kept w.heap.size w w'
 lbb : w.heap.size <= bb
 ltr : w.heap.size <= trb
 lA : w.heap.size <= rA
 lB : w.heap.size <= rB
 l5 : w.heap.size <= b5
 l6 : w.heap.size <= b6
 ne : rA ≠ rB
 cA : ChanNew w' rA
 cB : ChanNew w' rB
 rb : w'.heap[bb]? = some (bbRow V B)
 rt : w'.heap[trb]? = some (.cells #[.slice (some ⟨tb, tofs, none⟩) B.links.length tcap] 27 (0, 0))
 r5 : w'.heap[b5]? = some (.cells #[.chan (some rA)] 143 (0, 0))
 r6 : w'.heap[b6]? = some (.cells #[.chan (some rB)] 143 (0, 0))
def LkG (w : World) (V : BkV) (B : Bk) (tb tofs tcap : Nat) (cc : List Frame) (g : Goroutine) (w' : World) : Prop :=
 ∃ bb trb rA rB b5 b6, LkA w V B tb tofs tcap bb trb rA rB b5 b6 w' /\
  g = G ((baseN 64).at (LA (.pointer (some ⟨bb, 0, none⟩)) (.pointer (some ⟨trb, 0, none⟩)) (.slice none 0 0) (.pointer (some ⟨b5, 0, none⟩)) (.pointer (some ⟨b6, 0, none⟩)) (.chan (some rA)) (.chan (some rB)) (V.val B) (.slice (some ⟨tb, tofs, none⟩) B.links.length tcap)) [.code lrest]) cc
theorem LkA.tp {w : World} {V : BkV} {B : Bk} {tb tofs tcap bb trb rA rB b5 b6 : Nat} {w' : World} {τ : Nat -> Question -> Nat} {d : Nat} (h : LkA w V B tb tofs tcap bb trb rA rB b5 b6 (w'.tp τ d noJ)) : LkA w V B tb tofs tcap bb trb rA rB b5 b6 w' := by
 obtain ⟨h0, h1, h2, h3, h4, h5, h6, h7, h8, h9, h10, h11, h12, h13⟩ := h
 unfold ChanNew at h8 h9
 rw [tp_noJ_heap] at h8 h9 h10 h11 h12 h13
 refine ⟨?_, h1, h2, h3, h4, h5, h6, h7, h8, h9, h10, h11, h12, h13⟩
 have := h0
 rw [show w = w.tp w.tape w.drawn noJ from (tp_self w).symm] at this
 have := (Kept.tp w.tape τ w.drawn d).1 this
 rwa [tp_size] at this
def LookR (w : World) (B : Bk) (T : Nat -> Int) (v : Value) (w' : World) : Prop :=
 ∃ (ob : Nat) (c : Array Value), v = .slice (some ⟨ob, 0, none⟩) B.hours.toNat B.hours.toNat /\ w.heap.size <= ob /\ w'.heap[ob]? = some (.cells c 107 (0, 0)) /\ OutRow B T B.hours.toNat (List.range B.hours.toNat) c /\ Kept w.heap.size w w'
theorem look_enter (V : BkV) (B : Bk) (ts : Value) : Frame.enter tP 64 #[V.val B, ts] .normal =
  (baseN 64).at ⟨#[V.val B, ts, ud, ud, ud, ud, ud, ud, ud, ud, ud, ud, ud, ud, ud, ud, ud, ud, ud, ud, ud, ud, ud, ud, ud, ud, ud, ud, ud, ud, ud, ud, ud, ud, ud, ud, ud, ud, ud, ud, ud, ud, ud, ud, ud, ud, ud, ud, ud, ud], []⟩ [.code (Tryd.f64.body.getD .skip)] := by
 rw [enter_base (c := Tryd.f64.body.getD .skip) _ Tryd.func64 (by rfl), Tryd.ntmps64]
 simp [BkV.val, Array.replicate, List.replicate]
theorem LkPre.cut {w u : World} {V : BkV} {B : Bk} {tb tofs : Nat} {T : Nat -> Int} (L : LkPre w V B tb tofs T) (hz : w.heap.size <= u.heap.size) (hc : ∀ b, b < w.heap.size -> ∀ o, u.cell? ⟨b, o, none⟩ = w.cell? ⟨b, o, none⟩)
  (hr : ∀ (b : Nat) c t z, w.heap[b]? = some (.cells c t z) -> u.heap[b]? = some (.cells c t z)) : LkPre (cutW u w.heap.size) V B tb tofs T := by
 have hsz := cutW_size hz
 have hcell : ∀ b, b < w.heap.size -> ∀ o, (cutW u w.heap.size).cell? ⟨b, o, none⟩ = w.cell? ⟨b, o, none⟩ := fun b hb o => by
  rw [<- hc b hb o]
  exact World.cell?_of_block (w := u) (cutW_at hb)
 have hc1 : ∀ {b o : Nat} {v : Value}, w.cell? ⟨b, o, none⟩ = some v -> (cutW u w.heap.size).cell? ⟨b, o, none⟩ = some v := fun {b o v} h => by
  rw [hcell b (wBk w _ h)]; exact h
 have hrow : ∀ {o : Option Addr}, RowAt w o -> RowAt (cutW u w.heap.size) o := fun h a ha => by
  obtain ⟨c, t, z, h1⟩ := h a ha
  exact ⟨c, t, z, by rw [cutW_at (aS.1 h1).1]; exact hr _ _ _ _ h1⟩
 exact ⟨L.fine, L.steps, L.book.old hcell, ⟨fun k hk => hc1 (L.tr.get k hk), L.tr.pos⟩, hrow L.ta, hrow L.la, hrow L.pa, hc1 L.g0, hc1 L.g1, by rw [hsz]; exact L.gl⟩
structure RA' (a : Act) (ob n : Nat) : Prop where
 size : a.tmps.size = 50
 defers : a.defers = []
 e8 : a.tmps[8]?.getD ud = .slice (some ⟨ob, 0, none⟩) n n
def LkB (w : World) (B : Bk) (T : Nat -> Int) (cc : List Frame) (g : Goroutine) (w' : World) : Prop :=
 ∃ (a : Act) (ob : Nat) (c : Array Value), RA' a ob B.hours.toNat /\ w.heap.size <= ob /\ w'.heap[ob]? = some (.cells c 107 (0, 0)) /\ OutRow B T B.hours.toNat (List.range B.hours.toNat) c /\ Kept w.heap.size w w' /\ g = G ((baseN 64).at a [.code rend]) cc
theorem rend_ok : codeOk true rend = true := by kernel_rfl
theorem set_none {α : Type} {n i : Nat} {x : α} {y : Option α} (h : (some x :: List.replicate n none)[i]? = some y) : (i = 0 /\ y = some x) \/ (i ≠ 0 /\ y = none) := by
 cases i with
 | zero => simp at h; exact .inl ⟨rfl, h.symm⟩
 | succ i =>
  simp only [List.getElem?_cons_succ, List.getElem?_replicate] at h
  split at h
  ·exact .inr ⟨by omega, (Option.some.inj h).symm⟩
  ·cases h
theorem look_phase (w : World) (V : BkV) (B : Bk) (tb tofs tcap : Nat) (T : Nat -> Int) (L : LkPre w V B tb tofs T) (hs : Started w) (cc : List Frame) (w1 : World) (bb trb rA rB b5 b6 : Nat) (A : LkA w V B tb tofs tcap bb trb rA rB b5 b6 w1)
  (hfine : Fine (G ((baseN 64).at (LA (.pointer (some ⟨bb, 0, none⟩)) (.pointer (some ⟨trb, 0, none⟩)) (.slice none 0 0) (.pointer (some ⟨b5, 0, none⟩)) (.pointer (some ⟨b6, 0, none⟩)) (.chan (some rA)) (.chan (some rB)) (V.val B) (.slice (some ⟨tb, tofs, none⟩) B.links.length tcap)) [.code lrest]) cc) w1) :
  LBn w.heap.size tP (StopF (LkB w B T cc)) (G ((baseN 64).at (LA (.pointer (some ⟨bb, 0, none⟩)) (.pointer (some ⟨trb, 0, none⟩)) (.slice none 0 0) (.pointer (some ⟨b5, 0, none⟩)) (.pointer (some ⟨b6, 0, none⟩)) (.chan (some rA)) (.chan (some rB)) (V.val B) (.slice (some ⟨tb, tofs, none⟩) B.links.length tcap)) [.code lrest]) cc) w1 := by
 intro Tp j hj gs d sl t q h0 hL hP
 have hle : w.heap.size <= w1.heap.size := A.kept.size
 generalize hu : w1.tp Tp d j = u
 have husz : u.heap.size = w1.heap.size := by rw [<- hu, tp_size]
 have huc : ∀ {n : Nat} {c : Array Value} {t : TypeId} {z : Nat × Nat}, w1.heap[n]? = some (.cells c t z) -> u.heap[n]? = some (.cells c t z) := fun {n c t z} h => by rw [<- hu]; exact (tp_cells _ _ _ hj n c t z).2 h
 have hcell : ∀ b, b < w.heap.size -> ∀ o, u.cell? ⟨b, o, none⟩ = w.cell? ⟨b, o, none⟩ := fun b hb o => by rw [<- hu, tp_cell? _ _ _ hj]; exact A.kept.cell (p := ⟨b, o, none⟩) hb
 have L0 : LkPre (cutW u w.heap.size) V B tb tofs T := L.cut (by omega) hcell fun b c t z h => huc (by rw [A.kept.block b (aS.1 h).1]; exact h)
 have hcs : (cutW u w.heap.size).heap.size = w.heap.size := cutW_size (by omega)
 have hgs : 0 < gs.size := (aS.1 h0).1
 let φ : Ph := { n0 := gs.size, Hn := B.hours.toNat, chA := rA, chB := rB, z0 := .agg #[.int .i64 0, .int .i64 0, .int .i64 0], val := fun k => found B T k, isA := fun k => decide (0 <= B.lackIn T true k), u0 := cutW u w.heap.size, pos := hgs, ne := A.ne, lowA := by rw [hcs]; exact A.lA, lowB := by rw [hcs]; exact A.lB }
 let H0 : Hold := ⟨fun b => w.heap.size <= b /\ b < u.heap.size /\ b ≠ rA /\ b ≠ rB, fun b => b < w.heap.size⟩
 have hkid : ∀ c, ¬ Kid φ 0 [] c := fun c h => by have h1 := h.1; have h2 := h.2.1; omega
 have hHn : (φ.Hn : Int) = B.hours := by have := L.fine.hours; show ((B.hours.toNat : Nat) : Int) = B.hours; omega
 have hnoA : ∀ {b : Nat} {c : Array Value} {t : TypeId} {z : Nat × Nat}, w1.heap[b]? = some (.cells c t z) -> b ≠ rA /\ b ≠ rB := fun {b c t z} h => by
  refine ⟨fun e => ?_, fun e => ?_⟩
  ·subst e; have := A.cA; unfold ChanNew at this; rw [h] at this; cases this
  ·subst e; have := A.cB; unfold ChanNew at this; rw [h] at this; cases this
 have hmine : ∀ {b : Nat} {c : Array Value} {t : TypeId} {z : Nat × Nat}, w.heap.size <= b -> w1.heap[b]? = some (.cells c t z) -> H0.mine b := fun {b c t z} hb h => ⟨hb, by rw [husz]; exact (aS.1 h).1, (hnoA h).1, (hnoA h).2⟩
 have M : MK φ.u0 V B tb tofs tcap bb trb rA rB b5 b6 H0 u := by
  refine ⟨fun b hb => (cutW_at (by rw [<- hcs]; exact hb)).symm, by show (cutW u w.heap.size).heap.size <= u.heap.size; rw [hcs]; omega, fun b hb => .inr (by show b < w.heap.size; rw [<- hcs]; exact hb), fun x hx => ?_, huc A.rb, huc A.rt, huc A.r5, huc A.r6⟩
  simp only [List.mem_cons, List.not_mem_nil, or_false] at hx
  rcases hx with rfl | rfl | rfl | rfl
  ·exact .inl (hmine A.lbb A.rb)
  ·exact .inl (hmine A.ltr A.rt)
  ·exact .inl (hmine A.l5 A.r5)
  ·exact .inl (hmine A.l6 A.r6)
 have hrun : ∀ (Fin : Hold -> Goroutine -> World -> Prop), (∀ (H : Hold) (u : World) (a : Act) (ob : Nat) (c : Array Value), φ.u0.heap.size <= ob -> RA a b5 b6 ob φ.Hn B.hours φ.Hn -> H.mine ob -> u.heap[ob]? = some (.cells c 107 (0, 0)) -> OutRow B T φ.Hn (List.range φ.Hn) c -> RunM tP true Fin (H, G ((baseN 64).at a [.code rend]) cc, u)) -> _ :=
  fun Fin hrest => look_tree φ hHn Fin (baseN 64) cc [] (by decide) rfl rfl rfl (fun _ => rfl) (fun _ => rfl) L0 hrest H0 u (.slice none 0 0) (.chan (some rA)) (.chan (some rB)) (V.val B) (.slice (some ⟨tb, tofs, none⟩) B.links.length tcap) M
 have hrun' := hrun (fun _ g u => ∃ a ob c, φ.u0.heap.size <= ob /\ RA a b5 b6 ob φ.Hn B.hours φ.Hn /\ u.heap[ob]? = some (.cells c 107 (0, 0)) /\ OutRow B T φ.Hn (List.range φ.Hn) c /\ g = G ((baseN 64).at a [.code rend]) cc) fun H u a ob c h1 h2 h3 h4 h5 => .stop rfl fun u' ho => ⟨a, ob, c, h1, h2, off_row ho (.inl h3) h4, h5, rfl⟩
 clear hrun
 have hI : Inv tP φ (fun _ g u => ∃ a ob c, φ.u0.heap.size <= ob /\ RA a b5 b6 ob φ.Hn B.hours φ.Hn /\ u.heap[ob]? = some (.cells c 107 (0, 0)) /\ OutRow B T φ.Hn (List.range φ.Hn) c /\ g = G ((baseN 64).at a [.code rend]) cc) (φ.Hn + φ.Hn) 0 [] (some (H0, G ((baseN 64).at (LA (.pointer (some ⟨bb, 0, none⟩)) (.pointer (some ⟨trb, 0, none⟩)) (.slice none 0 0) (.pointer (some ⟨b5, 0, none⟩)) (.pointer (some ⟨b6, 0, none⟩)) (.chan (some rA)) (.chan (some rB)) (V.val B) (.slice (some ⟨tb, tofs, none⟩) B.links.length tcap)) [.code lrest]) cc, u) :: List.replicate (gs.size - 1) none) gs u t q (fun _ => H0) := by
  have hac : ∀ i, Ac (Kid φ 0 []) i -> i = 0 := fun i h => h.elim id fun h => absurd h (hkid i)
  refine ⟨by simp; omega, by omega, List.nodup_nil, by simp, fun _ => rfl, by simp; omega, rfl, fun i x hi => ?_, fun i x h0 hi => ?_, fun i g h0 hi hg => .inr ⟨hkid i, hL.old i g (by omega) hg⟩, fun hi => ?_, ?_, ⟨fun i j b hi hj hij => ?_, fun i j b hi hj hm hm' => ?_⟩, fun i b _ hb => ?_, fun i b _ hb => ?_, ?_, hL.above, ⟨0, 0, ?_, ?_⟩⟩
  ·rcases set_none hi with ⟨rfl, e⟩ | ⟨_, e⟩
   ·cases e; exact ⟨h0, rfl, .refl _ _, rfl⟩
   ·cases e
  ·rcases set_none hi with ⟨rfl, e⟩ | ⟨_, e⟩
   ·exact absurd rfl h0
   ·cases e
  ·rcases set_none hi with ⟨_, e⟩ | ⟨h, _⟩
   ·cases e
   ·exact absurd rfl h
  ·have hke : Kid φ 0 [] = fun _ => False := funext fun c => propext ⟨hkid c, False.elim⟩
   rw [hke, husz]
   exact .of_past hP _
  ·exact absurd ((hac i hi).trans (hac j hj).symm) hij
  ·have h1 : w.heap.size <= b := hm.1
   have h2 : b < w.heap.size := hm'
   omega
  ·have h3 := A.lA
   have h4 := A.lB
   rcases hb with hb | hb
   ·exact ⟨hb.2.1, hb.2.2.1, hb.2.2.2⟩
   ·have hb' : b < w.heap.size := hb
    exact ⟨by omega, by show b ≠ rA; omega, by show b ≠ rB; omega⟩
  ·show (cutW u w.heap.size).heap.size <= b
   rw [hcs]; exact hb.1
  ·exact ⟨by show (cutW u w.heap.size).heap.size <= _; rw [hcs]; omega, fun b hb => (cutW_at (by rw [<- hcs]; exact hb)).symm, rfl, rfl, rfl⟩
  ·have := A.cA
   unfold ChanNew at this
   show u.heap[rA]? = _
   rw [<- hu, tp_heap, this]; rfl
  ·have := A.cB
   unfold ChanNew at this
   show u.heap[rB]? = _
   rw [<- hu, tp_heap, this]; rfl
 obtain ⟨N, gs', u', sl', t', q', g, H', hr, _, hg0, _, ⟨a, ob, c, l1, l2, l3, l4, rfl⟩, hL', hP', hext⟩ := phase (φ.Hn + φ.Hn) 0 [] _ gs u sl t q (fun _ => H0) hI fun i x hi => by
  rcases set_none hi with ⟨rfl, e⟩ | ⟨_, e⟩
  ·cases e
   rw [stopAll_main]
   exact hrun'
  ·cases e
 have hl1 : w.heap.size <= ob := by rw [<- hcs]; exact l1
 have hz' : w.heap.size <= u'.heap.size := by rw [<- hcs]; exact hext.size
 have hT : u'.tape = Tp := hext.same.1.trans (by show u.tape = Tp; rw [<- hu]; rfl)
 have hk : ∀ b, b < w.heap.size -> u'.heap[b]? = (w.tp Tp d j).heap[b]? := fun b hb => by
  rw [hext.keep b (by show b < (cutW u w.heap.size).heap.size; rw [hcs]; exact hb)]
  show (cutW u w.heap.size).heap[b]? = _
  rw [cutW_at hb, <- hu, tp_heap, tp_heap, A.kept.block b hb]
 have hmt := mend_tp (j := j) hz' hk hT
 refine ⟨N, gs', _, mend w u', u'.drawn, mendJ w u' j, sl', t', q', ⟨mendJ_ok hj, by rw [mend_size]; exact hz', fun n hn => by unfold mendJ; rw [if_pos hn]⟩, by rw [hmt]; exact hr, hg0, ⟨⟨a, ob, c, ⟨l2.size, l2.defers, l2.e8⟩, hl1, mend_cells hl1 l3, l4, ⟨?_, ?_, by rw [mend_size]; exact hz', fun b hb => mend_old hz' hb⟩, rfl⟩, ⟨⟨fun it hit => ?_, fun dd hd => ?_, (by decide : CallKind.normal ≠ CallKind.early)⟩, hfine.good.callers⟩, rfl, rfl, mend_started hs⟩, hL', by rw [mend_size]; exact hP'⟩
 ·exact hext.same.2.1.trans ((by show u.os = w1.os; rw [<- hu]; rfl : φ.u0.os = w1.os).trans A.kept.os)
 ·exact hext.same.2.2.trans ((by show u.output = w1.output; rw [<- hu]; rfl : φ.u0.output = w1.output).trans A.kept.output)
 ·simp only [G, Frame.at, List.mem_singleton] at hit
  subst hit
  exact rend_ok
 ·simp only [G, Frame.at, l2.defers] at hd
  cases hd
set_option maxHeartbeats 1000000 in
theorem look_callsL (w : World) (V : BkV) (B : Bk) (tb tofs tcap : Nat) (T : Nat -> Int) (L : LkPre w V B tb tofs T) :
  CallsL tP 64 #[V.val B, .slice (some ⟨tb, tofs, none⟩) B.links.length tcap] w (LookR w B T) := by
 intro c cs hc hcs hs
 have hf0 : Fine { frame := Frame.enter tP 64 #[V.val B, .slice (some ⟨tb, tofs, none⟩) B.links.length tcap] .normal, callers := c :: cs, status := .running, dying := none } w :=
  ⟨⟨enter_ok good.bodies _ _ (by decide), fun x hx => (List.mem_cons.1 hx).elim (fun e => e ▸ hc) (hcs x)⟩, rfl, rfl, hs⟩
 refine lbn_bind (Stop := StopF (LkG w V B tb tofs tcap (c :: cs))) (lb_run (run_of_lone good (fun g w' τ d ⟨bb, trb, rA, rB, b5, b6, h, e⟩ => ⟨bb, trb, rA, rB, b5, b6, h.tp, e⟩) hf0 fun τ => ?_)) ?_
 ·obtain ⟨it, a', w', hq, n, hn⟩ := look_start V B (some ⟨tb, tofs, none⟩) B.links.length tcap (w.tp τ 0 noJ) (fun it a w' => ∃ bb trb rA rB b5 b6, LkA w V B tb tofs tcap bb trb rA rB b5 b6 w' /\ it = [.code lrest] /\ a = LA (.pointer (some ⟨bb, 0, none⟩)) (.pointer (some ⟨trb, 0, none⟩)) (.slice none 0 0) (.pointer (some ⟨b5, 0, none⟩)) (.pointer (some ⟨b6, 0, none⟩)) (.chan (some rA)) (.chan (some rB)) (V.val B) (.slice (some ⟨tb, tofs, none⟩) B.links.length tcap))
   (fun bb trb rA rB b5 b6 w' hbel h1 h2 h3 h4 h5 h6 h7 _ h8 h9 h10 h11 h12 h13 => by
    rw [tp_size] at hbel h1 h2 h3 h4 h5 h6
    refine ⟨bb, trb, rA, rB, b5, b6, ⟨?_, h1, h2, h3, h4, h5, h6, h7, h8, h9, h10, h11, h12, h13⟩, rfl, rfl⟩
    have := Kept.of_below hbel
    rw [<- tp_self w'] at this
    have := (Kept.tp τ w'.tape 0 w'.drawn).1 this
    exact this) (baseN 64) [] (c :: cs)
  obtain ⟨bb, trb, rA, rB, b5, b6, hA, rfl, rfl⟩ := hq
  rw [look_enter]
  exact ⟨n, _, hn, _, w', rfl, rfl, rfl, bb, trb, rA, rB, b5, b6, hA, rfl⟩
 ·rintro g1 w1 _ ⟨⟨bb, trb, rA, rB, b5, b6, A, rfl⟩, hfine⟩
  refine lbn_bind (Stop := StopF (LkB w B T (c :: cs))) (look_phase w V B tb tofs tcap T L hs (c :: cs) w1 bb trb rA rB b5 b6 A hfine) ?_
  rintro g2 w2 hz2 ⟨⟨a, ob, cc, ⟨hsz, hdf, e8⟩, l1, l2, l3, l4, rfl⟩, hfine2⟩
  refine lbn_mono (lb_run (run_rest good Tryd.func64 hfine2 (fun v w' τ d hr => ?_) fun τ => ?_)) hz2
  ·obtain ⟨ob, c, h1, h2, h3, h4, h5⟩ := hr
   rw [tp_noJ_heap] at h3
   refine ⟨ob, c, h1, h2, h3, h4, ?_⟩
   rw [show w = w.tp w.tape w.drawn noJ from (tp_self w).symm] at h5
   have := (Kept.tp w.tape τ w.drawn d).1 h5
   rwa [tp_size] at this
  ·simp only [rend, rcode, lrest, Tryd.f64]
   have hp1 := put_put a (d := 49) (.slice (some ⟨ob, 0, none⟩) B.hours.toNat B.hours.toNat) (by rw [hsz]; decide)
   have hp2 := put_put (a.put (some 49) (.slice (some ⟨ob, 0, none⟩) B.hours.toNat B.hours.toNat)) (d := 4) (.slice (some ⟨ob, 0, none⟩) B.hours.toNat B.hours.toNat) (by rw [hp1.size, hsz]; decide)
   refine wp_seq (wp_region (wpOps_value rfl rfl (v := .slice (some ⟨ob, 0, none⟩) B.hours.toNat B.hours.toNat) (w' := w2.tp τ 0 noJ) (by simp [go_sem, e8]) (wpOps_value rfl rfl (w' := w2.tp τ 0 noJ) (v := .slice (some ⟨ob, 0, none⟩) B.hours.toNat B.hours.toNat) ?_ (wp_ret ?_))))
   ·have := hp1.same
    simp only [Act.put] at this
    simp [go_sem, this]
   ·refine ⟨hp2.defers.trans (hp1.defers.trans hdf), .slice (some ⟨ob, 0, none⟩) B.hours.toNat B.hours.toNat, ?_, _, rfl, ob, cc, rfl, l1, ?_, l3, ?_⟩
    ·have := hp2.same
     simp only [Act.put] at this
     simp [results, go_sem, this]
    ·rw [tp_noJ_heap]; exact l2
    ·have := (Kept.tp (n := w.heap.size) (w := w) (w' := w2) w.tape τ w.drawn 0).2 l4
     rwa [tp_self] at this
end Go.Proofs.YtaikibfkggglgaaDoor
namespace Go.Tp
open Go.Conc Go.RowKit
section
variable {P : Program} {f : FuncId} {R : Value -> World -> Prop} {a : Act} {w : World} {it kk : List Item} {ops : Array Oper} {i : Nat} {rest : List Nat} {o : Oper}
theorem lb_tp {Stop : Goroutine -> World -> Prop} {g : Goroutine} {w : World} {τ : Nat -> Question -> Nat} {d : Nat} (h : LB P Stop g (w.tp τ d noJ)) : LB P Stop g w := by
 intro T j hj gs d' sl t q h0 hL hP
 have := h T j hj gs d' sl t q h0 hL (by rw [tp_size]; exact hP)
 rw [tp_tp, tp_size] at this
 exact this
theorem fine_tp {g : Goroutine} {w : World} (h : Fine g w) (τ : Nat -> Question -> Nat) (d : Nat) : Fine g (w.tp τ d noJ) := ⟨h.good, h.alive, h.runs, started_tp h.started τ d⟩
def Sat (R : Value -> World -> Prop) : Value -> World -> Prop := fun v w => ∃ τ d, R v (w.tp τ d noJ)
def EndAt (P : Program) (f : FuncId) (cs : List Frame) (g : Goroutine) (w : World) (v : Value) : Prop := match cs with
 | [] => ∃ fr, g = G fr [] /\ fr.fn = f /\ fr.leaving P w (.returned v)
 | c :: cs => g = backG c cs v
abbrev EndL (P : Program) (f : FuncId) (R : Value -> World -> Prop) (cs : List Frame) (g : Goroutine) (w : World) : Prop := ∃ v τ d, EndAt P f cs g (w.tp τ d noJ) v /\ R v (w.tp τ d noJ)
theorem endL_tp {cs : List Frame} {g : Goroutine} {w : World} (τ : Nat -> Question -> Nat) (d : Nat) (h : EndL P f R cs g (w.tp τ d noJ)) : EndL P f R cs g w := by
 obtain ⟨v, τ', d', e, r⟩ := h
 exact ⟨v, τ', d', by rwa [tp_tp] at e, by rwa [tp_tp] at r⟩
theorem end_of {m : Machine} {fr : Frame} {cs : List Frame} {w : World} {v : Value} (hs : Steps P m (lone fr cs w)) (hfn : fr.fn = f) (hl : fr.leaving P w (.returned v)) (hr : R v w) : ∃ n g, runN P n m = .next (oneG g w) /\ g.status = .running /\ g.dying = none /\ EndL P f R cs g w := by
 cases cs with
 | nil =>
  obtain ⟨n, hn⟩ := hs
  exact ⟨n, G fr [], hn, rfl, rfl, v, w.tape, w.drawn, by rw [tp_self]; exact ⟨fr, rfl, hfn, hl⟩, by rwa [tp_self]⟩
 | cons c cs =>
  obtain ⟨n, hn⟩ := hs.trans (.one (step_leave_returned hl))
  exact ⟨n, backG c cs v, hn, rfl, rfl, v, w.tape, w.drawn, rfl, by rwa [tp_self]⟩
def GL (P : Program) (f : FuncId) (it : List Item) (R : Value -> World -> Prop) (a : Act) (w : World) : Prop :=
 ∀ (cs : List Frame), Fine (G ((baseN f).at a it) cs) w -> LB P (StopF (EndL P f R cs)) (G ((baseN f).at a it) cs) w
theorem gl_tp {τ : Nat -> Question -> Nat} {d : Nat} (h : GL P f it R a (w.tp τ d noJ)) : GL P f it R a w := fun cs hf => lb_tp (h cs (fine_tp hf τ d))
theorem GL.mono {R' : Value -> World -> Prop} (h : GL P f it R a w) (k : ∀ v w, R v w -> R' v w) : GL P f it R' a w :=
 fun cs hf => lb_mono (h cs hf) fun _ _ ⟨⟨v, τ, d, e, r⟩, hf'⟩ => ⟨⟨v, τ, d, e, k _ _ r⟩, hf'⟩
theorem gl_lone (G' : Good P) (S : List Item -> Act -> World -> Prop) (h : ∀ τ, ∃ it' a' w', S it' a' w' /\ ∀ cc, Steps P (lone ((baseN f).at a it) cc (w.tp τ 0 noJ)) (lone ((baseN f).at a' it') cc w'))
  (k : ∀ it' a' w', S it' a' w' -> GL P f it' R a' w') : GL P f it R a w := by
 intro cs hf
 refine lb_bind (Stop := StopF fun g w' => ∃ it' a' τ d, g = G ((baseN f).at a' it') cs /\ S it' a' (w'.tp τ d noJ)) (lb_run (run_of_lone G' (fun g w' τ d ⟨it', a', τ', d', e, s⟩ => ⟨it', a', τ', d', e, by rwa [tp_tp] at s⟩) hf fun τ => ?_)) ?_
 ·obtain ⟨it', a', w', hs, hst⟩ := h τ
  obtain ⟨n, hn⟩ := hst cs
  exact ⟨n, _, hn, _, w', rfl, rfl, rfl, it', a', w'.tape, w'.drawn, rfl, by rwa [tp_self]⟩
 ·rintro g w' ⟨⟨it', a', τ, d, rfl, hs⟩, hf'⟩
  exact gl_tp (k it' a' _ hs) cs hf'
theorem gl_ctl (G' : Good P) {it' : List Item} (h : ∀ w cc, step P (lone ((baseN f).at a it) cc w) = .next (lone ((baseN f).at a it') cc w)) (k : GL P f it' R a w) : GL P f it R a w :=
 gl_lone G' (fun i b u => i = it' /\ b = a /\ ∃ τ, u = w.tp τ 0 noJ) (fun τ => ⟨it', a, _, ⟨rfl, rfl, τ, rfl⟩, fun cc => .one (h _ cc)⟩) fun i b u ⟨e1, e2, τ, e3⟩ => by
  subst e1 e2 e3
  intro cs hf
  have := k cs (by
   have := fine_tp hf w.tape w.drawn
   rwa [tp_tp, tp_self] at this)
  intro T j hj gs d sl t q h0 hL hP
  have h2 := this T j hj gs d sl t q h0 hL (by rw [tp_size] at hP; exact hP)
  rw [tp_tp, tp_size]
  exact h2
theorem gl_seq (G' : Good P) {x y : Code} (h : GL P f (.code x :: .code y :: kk) R a w) : GL P f (.code (.seq x y) :: kk) R a w := gl_ctl G' (fun _ _ => step_seq) h
theorem gl_skip (G' : Good P) (h : GL P f kk R a w) : GL P f (.code .skip :: kk) R a w := gl_ctl G' (fun _ _ => step_skip) h
theorem gl_region (G' : Good P) {id : Nat} (h : GL P f (.inRegion ops (List.range ops.size) :: kk) R a w) : GL P f (.code (.region id ops false) :: kk) R a w := gl_ctl G' (fun _ _ => step_region) h
theorem gl_regionEnd (G' : Good P) (h : GL P f kk R a w) : GL P f (.inRegion ops [] :: kk) R a w := gl_ctl G' (fun _ _ => step_region_end) h
theorem gl_cond (G' : Good P) {c : Operand} {x y : Code} (t : Bool) (hc : a.eval c = .bool t) (h : GL P f (.code (if t then x else y) :: kk) R a w) : GL P f (.code (.cond c x y) :: kk) R a w := gl_ctl G' (fun _ _ => step_cond hc) h
theorem gl_block (G' : Good P) {id : Nat} {x : Code} (h : GL P f (.code x :: .inBlock id :: kk) R a w) : GL P f (.code (.block id x) :: kk) R a w := gl_ctl G' (fun _ _ => step_lone_go (by simp [stepG, stepG.exec, Frame.at, GStep.bare, baseN])) h
theorem gl_inBlock (G' : Good P) {id : Nat} (h : GL P f kk R a w) : GL P f (.inBlock id :: kk) R a w := gl_ctl G' (fun _ _ => step_lone_go (by simp [stepG, stepG.exec, Frame.at, GStep.bare, baseN])) h
theorem gl_loop (G' : Good P) {x : Code} (h : GL P f (.code x :: .inLoop x :: kk) R a w) : GL P f (.code (.loop x) :: kk) R a w := gl_ctl G' (fun _ _ => step_lone_go (by simp [stepG, stepG.exec, Frame.at, GStep.bare, baseN])) h
theorem gl_inLoop (G' : Good P) {x : Code} (h : GL P f (.code x :: .inLoop x :: kk) R a w) : GL P f (.inLoop x :: kk) R a w := gl_ctl G' (fun _ _ => step_lone_go (by simp [stepG, stepG.exec, Frame.at, GStep.bare, baseN])) h
theorem gl_exit (G' : Good P) {id : Nat} {k' : List Item} (he : exitTo id kk = some k') (h : GL P f k' R a w) : GL P f (.code (.exit id) :: kk) R a w := gl_ctl G' (fun _ _ => step_lone_go (by simp [stepG, stepG.exec, Frame.at, GStep.bare, baseN, he])) h
theorem gl_unwanted (G' : Good P) (ho : ops[i]? = some o) (hw : Region.wanted o (yielded ops a.tmps) = false) (h : GL P f (.inRegion ops rest :: kk) R (a.put o.dst ud) w) : GL P f (.inRegion ops (i :: rest) :: kk) R a w :=
  gl_lone G' (fun it b u => it = .inRegion ops rest :: kk /\ b = a.put o.dst ud /\ ∃ τ, u = w.tp τ 0 noJ) (fun τ => ⟨_, _, _, ⟨rfl, rfl, τ, rfl⟩, fun cc => .one (by
      have := step_op_skip (P := P) (b := baseN f) (a := a) (k := kk) (cs := cc) (w := w.tp τ 0 noJ) (ops := ops) (i := i) (rest := rest) (by simp [ho, hw])
      rw [this, ho]; rfl)⟩) fun it b u ⟨e1, e2, τ, e3⟩ => by
    subst e1 e2 e3
    exact gl_tp (τ := w.tape) (d := w.drawn) (by rw [tp_tp, tp_self]; exact h)
theorem gl_op (G' : Good P) (S : Value -> World -> Prop) (ho : ops[i]? = some o) (hw : Region.wanted o (yielded ops a.tmps) = true) (hr : ∀ τ, ∃ v w', (execOp a.eval o).run P (w.tp τ 0 noJ) = .ok (.value v) w' /\ S v w')
  (h : ∀ v w', S v w' -> GL P f (.inRegion ops rest :: kk) R (a.put o.dst v) w') : GL P f (.inRegion ops (i :: rest) :: kk) R a w := by
 refine gl_lone G' (fun it b u => ∃ v, it = .inRegion ops rest :: kk /\ b = a.put o.dst v /\ S v u) (fun τ => ?_) fun it b u ⟨v, e1, e2, hs⟩ => by subst e1 e2; exact h v u hs
 obtain ⟨v, w', hr', hs⟩ := hr τ
 refine ⟨_, _, w', ⟨v, rfl, rfl, hs⟩, fun cc => .one (step_lone_go ?_)⟩
 change (stepG P true (G ((baseN f).at a (.inRegion ops (i :: rest) :: kk)) cc) (w.tp τ 0 noJ)).bare = _
 rw [stepG_value ho hw (by intro e; cases e) hr']
 rfl
theorem gl_code (G' : Good P) {fn : Func} {x : Code} (S : Act -> World -> Prop) (hf : P.funcs[f]? = some fn)
  (h : ∀ τ, x.wp P (Exit.then S (bodyPost P fn fun e w' => ∃ v, e = .returned v /\ R v w')) a (w.tp τ 0 noJ)) (k : ∀ a' w', S a' w' -> GL P f kk R a' w') : GL P f (.code x :: kk) R a w := by
 intro cs hfine
 refine lb_bind (Stop := StopF fun g w' => (∃ a' τ d, g = G ((baseN f).at a' kk) cs /\ S a' (w'.tp τ d noJ)) \/ EndL P f R cs g w') (lb_run (run_of_lone G' (fun g w' τ d hs => ?_) hfine fun τ => ?_)) ?_
 ·rcases hs with ⟨a', τ', d', e, s⟩ | h
  ·exact .inl ⟨a', τ', d', e, by rwa [tp_tp] at s⟩
  ·exact .inr (endL_tp τ d h)
 ·obtain ⟨e, a', w', hq, harr⟩ := h τ (baseN f) kk cs
  cases e with
  | normal =>
   obtain ⟨n, hn⟩ := harr
   exact ⟨n, _, hn, _, w', rfl, rfl, rfl, .inl ⟨a', w'.tape, w'.drawn, rfl, by rwa [tp_self]⟩⟩
  | ret =>
   obtain ⟨hd, v, hr, v', e, hR'⟩ := hq
   cases e
   obtain ⟨todo, hs⟩ := harr
   obtain ⟨n, g, h1, h2, h3, h4⟩ := end_of (R := R) (fr := { (baseN f).at a' todo with mode := .returning }) hs rfl ⟨rfl, hd, rfl, fn, hf, hr⟩ hR'
   exact ⟨n, _, h1, g, w', rfl, h2, h3, .inr h4⟩
  | panic chain => obtain ⟨_, v, e, _⟩ := hq; cases e
  | exit id => exact hq.elim
  | goto l => exact hq.elim
  | outgrown => obtain ⟨v, e, _⟩ := hq; cases e
 ·rintro g w' ⟨⟨a', τ, d, rfl, hs⟩ | hr, hf'⟩
  ·exact gl_tp (k a' _ hs) cs hf'
  ·exact lb_here ⟨hr, hf'⟩
theorem gl_rest (G' : Good P) {fn : Func} {x : Code} (hf : P.funcs[f]? = some fn) (h : ∀ τ, x.wp P (bodyPost P fn fun e w' => ∃ v, e = .returned v /\ R v w') a (w.tp τ 0 noJ)) : GL P f [.code x] R a w := by
 intro cs hfine
 refine lb_run (run_of_lone G' (Stop := EndL P f R cs) (fun g w' τ d h => endL_tp τ d h) hfine fun τ => ?_)
 obtain ⟨e, a', w', hq, harr⟩ := h τ (baseN f) [] cs
 cases e with
 | normal =>
  obtain ⟨hd, v, hr, v', e, hR'⟩ := hq
  cases e
  obtain ⟨n, g, h1, h2, h3, h4⟩ := end_of (R := R) (Steps.trans harr (.one step_end)) rfl ⟨rfl, hd, rfl, fn, hf, hr⟩ hR'
  exact ⟨n, _, h1, g, w', rfl, h2, h3, h4⟩
 | ret =>
  obtain ⟨hd, v, hr, v', e, hR'⟩ := hq
  cases e
  obtain ⟨todo, hs⟩ := harr
  obtain ⟨n, g, h1, h2, h3, h4⟩ := end_of (R := R) (fr := { (baseN f).at a' todo with mode := .returning }) hs rfl ⟨rfl, hd, rfl, fn, hf, hr⟩ hR'
  exact ⟨n, _, h1, g, w', rfl, h2, h3, h4⟩
 | panic chain => obtain ⟨_, v, e, _⟩ := hq; cases e
 | exit id => exact hq.elim
 | goto l => exact hq.elim
 | outgrown => obtain ⟨v, e, _⟩ := hq; cases e
theorem gl_call (G' : Good P) {g : FuncId} {args : Array Value} {R1 : Value -> World -> Prop} (ho : ops[i]? = some o) (hw : Region.wanted o (yielded ops a.tmps) = true)
  (hr : ∀ u, (execOp a.eval o).run P u = .ok (.enter g args) u) (hcall : CallsL P g args w R1)
  (k : ∀ v w', R1 v w' -> GL P f (.inRegion ops rest :: kk) R (a.put o.dst v) w') : GL P f (.inRegion ops (i :: rest) :: kk) R a w := by
 intro cs hfine
 have hfo := hfine.good.frame
 have hcs := hfine.good.callers
 refine lb_bind (Stop := StopF fun g' u => g' = { frame := Frame.enter P g args .normal, callers := (baseN f).at a (.inRegion ops (i :: rest) :: kk) :: cs, status := .running, dying := none } /\ ∃ τ d, u.tp τ d noJ = w) (lb_run (run_of_lone G' (fun g w' τ d ⟨e, τ', d', h⟩ => ⟨e, τ', d', by rwa [tp_tp] at h⟩) hfine fun τ => ?_)) ?_
 ·refine ⟨1, lone (Frame.enter P g args .normal) ((baseN f).at a (.inRegion ops (i :: rest) :: kk) :: cs) (w.tp τ 0 noJ), ?_, _, _, rfl, rfl, rfl, rfl, w.tape, w.drawn, by rw [tp_tp, tp_self]⟩
  have hs : step P (lone ((baseN f).at a (.inRegion ops (i :: rest) :: kk)) cs (w.tp τ 0 noJ)) = .next (lone (Frame.enter P g args .normal) ((baseN f).at a (.inRegion ops (i :: rest) :: kk) :: cs) (w.tp τ 0 noJ)) := by
   refine step_lone_go ?_
   change (stepG P true (G ((baseN f).at a (.inRegion ops (i :: rest) :: kk)) cs) (w.tp τ 0 noJ)).bare = _
   rw [stepG_oper ho hw]
   simp [stepG.apply, hr, Frame.at, baseN, GStep.after, GStep.bare]
  exact congrArg (fun s => match s with | Stepped.next m => Stepped.next m | e => e) hs
 ·rintro g' u ⟨⟨rfl, τ, d, hu⟩, hf'⟩
  refine lb_tp (τ := τ) (d := d) ?_
  rw [hu]
  have hcaller : FrameOk ((baseN f).at a (.inRegion ops (i :: rest) :: kk)) := hfo
  refine lb_bind (hcall _ _ hcaller hcs hfine.started) ?_
  rintro g2 w2 ⟨⟨v, rfl, hv⟩, hf2⟩
  have hfin : ((baseN f).at a (.inRegion ops (i :: rest) :: kk)).finish v = (baseN f).at (a.put o.dst v) (.inRegion ops rest :: kk) := by rw [Frame.finish_at, ho]; rfl
  rw [hfin] at hf2 ⊢
  exact k v w2 hv cs hf2
theorem callsL_of_gl {fn : Func} {x : Code} {args : Array Value} (G' : Good P) (hf : P.funcs[f]? = some fn) (hb : fn.body = some x) (h : GL P f [.code x] R { tmps := args ++ Array.replicate (fn.ntmps - args.size) ud, defers := [] } w) : CallsL P f args w (Sat R) := by
 intro c cs hc hcs hs
 have hok : FrameOk (Frame.enter P f args .normal) := enter_ok G'.bodies _ _ (by decide)
 rw [enter_base args hf hb] at hok ⊢
 exact lb_mono (h (c :: cs) ⟨⟨hok, fun y hy => (List.mem_cons.1 hy).elim (fun e => e ▸ hc) (hcs y)⟩, rfl, rfl, hs⟩) fun g w' ⟨⟨v, τ, d, e, r⟩, hf'⟩ => ⟨⟨v, e, τ, d, r⟩, hf'⟩
end
end Go.Tp
namespace Go.Proofs.YtaikibfkggglgaaDoor
open Go.RowKit Go.Rent Go.Tp Go.Conc
section
variable {P : Program} {Q : List Item -> Act -> World -> Prop} {a : Act} {w : World} {it : List Item} {ops : Array Oper} {i : Nat} {rest : List Nat} {o : Oper}
theorem comes_step {it' : List Item} {a' : Act} {w' : World} (hs : ∀ (b : Frame) (k : List Item) (cs : List Frame), step P (lone (b.at a (it ++ k)) cs w) = .next (lone (b.at a' (it' ++ k)) cs w')) (h : Comes P it' Q a' w') : Comes P it Q a w := by
 intro b k cs
 obtain ⟨it2, a2, w2, q, s⟩ := h b k cs
 exact ⟨it2, a2, w2, q, .head (hs b k cs) s⟩
theorem comes_push {x y : Code} (h : Comes P (.code x :: .code y :: it) Q a w) : Comes P (.code (.seq x y) :: it) Q a w := comes_step (fun _ _ _ => step_seq) h
theorem comes_reg {id : Nat} (h : Comes P (.inRegion ops (List.range ops.size) :: it) Q a w) : Comes P (.code (.region id ops false) :: it) Q a w := comes_step (fun _ _ _ => step_region) h
theorem comes_regEnd (h : Comes P it Q a w) : Comes P (.inRegion ops [] :: it) Q a w := comes_step (fun _ _ _ => step_region_end) h
theorem comes_code {x : Code} (h : x.wp P (Exit.then (fun a w => Comes P it Q a w) Gone) a w) : Comes P (.code x :: it) Q a w := by
 intro b k cs
 obtain ⟨e, a1, w1, hq, harr⟩ := h b (it ++ k) cs
 cases e with
 | normal =>
  obtain ⟨it', a', w', q, s⟩ := hq b k cs
  exact ⟨it', a', w', q, Steps.trans harr s⟩
 | _ => exact hq.elim
theorem comes_val {w1 : World} {v : Value} (ho : ops[i]? = some o) (hw : Region.wanted o (yielded ops a.tmps) = true) (hr : (execOp a.eval o).run P w = .ok (.value v) w1) (h : Comes P (.inRegion ops rest :: it) Q (a.put o.dst v) w1) : Comes P (.inRegion ops (i :: rest) :: it) Q a w := by
 refine comes_step (fun b k cs => step_lone_go ?_) h
 have hg := stepG_op (P := P) (b := b) (k := it ++ k) (cs := cs) (w := w) (rest := rest) ho hw
 have hfin : ∀ v, (b.at a (.inRegion ops (i :: rest) :: (it ++ k))).finish v = b.at (a.put o.dst v) (.inRegion ops rest :: (it ++ k)) := by
  intro v; rw [Frame.finish_at, ho]; rfl
 change (stepG P true { frame := b.at a (.inRegion ops (i :: rest) :: (it ++ k)), callers := cs, status := .running, dying := none } w).bare = _
 rw [hg]
 show _ = GStep.go { frame := b.at (a.put o.dst v) (.inRegion ops rest :: (it ++ k)), callers := cs, status := .running, dying := none } w1
 rw [<- hfin]; simp [stepG.apply, hr]
theorem gl_comes (G' : Tp.Good P) {f : FuncId} {R : Value -> World -> Prop} (h : ∀ τ, Comes P it Q a (w.tp τ 0 noJ)) (k : ∀ it' a' w', Q it' a' w' -> GL P f it' R a' w') : GL P f it R a w := by
 intro cs hf
 refine lb_bind (Stop := StopF fun g w' => ∃ it' a' τ d, g = G ((baseN f).at a' it') cs /\ Q it' a' (w'.tp τ d noJ)) (lb_run (run_of_lone G' (fun g w' τ d ⟨it', a', τ', d', e, s⟩ => ⟨it', a', τ', d', e, by rwa [tp_tp] at s⟩) hf fun τ => ?_)) ?_
 ·obtain ⟨it', a', w', hs, n, hn⟩ := h τ (baseN f) [] cs
  rw [List.append_nil, List.append_nil] at hn
  exact ⟨n, _, hn, _, w', rfl, rfl, rfl, it', a', w'.tape, w'.drawn, rfl, by rwa [tp_self]⟩
 ·rintro g w' ⟨⟨it', a', τ, d, rfl, hs⟩, hf'⟩
  exact gl_tp (k it' a' _ hs) cs hf'
end
section
variable {w : World} {τ : Nat -> Question -> Nat} {d : Nat}
theorem cell_tp (a : Addr) : (w.tp τ d noJ).cell? a = w.cell? a := tp_cell? w τ d noJ_ok a
theorem size_tp : (w.tp τ d noJ).heap.size = w.heap.size := tp_size _ _ _ _
end
section
variable {w : World} {τ : Nat -> Question -> Nat} {d : Nat}
theorem SlI.tp {sa : Option Addr} {xs : List Int} (h : SlI w sa xs) : SlI (w.tp τ d noJ) sa xs := fun i x hx => by obtain ⟨b, o, e, h0⟩ := h i x hx; exact ⟨b, o, e, by rw [cell_tp]; exact h0⟩
theorem SlB.tp {sa : Option Addr} {xs : List (Int × Int)} (h : SlB w sa xs) : SlB (w.tp τ d noJ) sa xs := fun i x hx => by obtain ⟨b, o, e, h0, h1⟩ := h i x hx; exact ⟨b, o, e, by rw [cell_tp]; exact h0, by rw [cell_tp]; exact h1⟩
theorem SlS.tp {sa : Option Addr} {xs : List ByteArray} (h : SlS w sa xs) : SlS (w.tp τ d noJ) sa xs := fun i x hx => by obtain ⟨b, o, e, h0⟩ := h i x hx; exact ⟨b, o, e, by rw [cell_tp]; exact h0⟩
theorem LkAt.tp {la : Option Addr} {ls : List Lnk} (h : LkAt w la ls) : LkAt (w.tp τ d noJ) la ls := fun i L hi => by
 obtain ⟨b, o, sa, sc, h1, h2, h3, h4, h5, h6⟩ := h i L hi
 exact ⟨b, o, sa, sc, h1, by rw [cell_tp]; exact h2, by rw [cell_tp]; exact h3, by rw [cell_tp]; exact h4, h5.tp, h6⟩
theorem PrAt.tp {la : Option Addr} {ls : List Pr} (h : PrAt w la ls) : PrAt (w.tp τ d noJ) la ls := fun i L hi => by
 obtain ⟨b, o, sa, sc, h1, h2, h3, h4, h5, h6⟩ := h i L hi
 exact ⟨b, o, sa, sc, h1, by rw [cell_tp]; exact h2, by rw [cell_tp]; exact h3, by rw [cell_tp]; exact h4, h5.tp, h6⟩
theorem BkIn.tp {V : BkV} {B : Bk} (h : BkIn w V B) : BkIn (w.tp τ d noJ) V B := ⟨h.towns.tp, h.links.tp, h.pairs.tp, h.nt, h.nl, h.np, h.tc⟩
theorem Var2.tp (h : Var2 w) : Var2 (w.tp τ d noJ) := ⟨by rw [cell_tp]; exact h.c0, by rw [cell_tp]; exact h.c1, by rw [cell_tp]; exact h.c2, by rw [cell_tp]; exact h.c3⟩
end
structure Vars (w : World) : Prop where
 v2 : Var2 w
 g0 : w.cell? ⟨0, 0, none⟩ = some (.func (.func 144) #[] #[])
 g1 : w.cell? ⟨1, 0, none⟩ = some (.func (.func 145) #[] #[])
 gl : tP.globals.size <= w.heap.size
structure BkRows (w : World) (V : BkV) : Prop where
 ta : RowAt w V.ta
 la : RowAt w V.la
 pa : RowAt w V.pa
section
variable {w w' : World}
theorem kept_cell {n : Nat} (h : Kept n w w') (hn : w.heap.size <= n) {b o : Nat} {v : Value} (hc : w.cell? ⟨b, o, none⟩ = some v) : w'.cell? ⟨b, o, none⟩ = some v := by
 rw [h.cell (p := ⟨b, o, none⟩) (Nat.lt_of_lt_of_le (wBk w _ hc) hn)]; exact hc
theorem _root_.Go.Tp.Kept.below {n : Nat} (h : Kept n w w') : Below n w (w'.tp w.tape w'.drawn noJ) := ⟨h.os, rfl, h.output, by rw [tp_size]; exact h.size, fun k hk => by rw [tp_noJ_heap]; exact h.block k hk⟩
theorem BkIn.kept {V : BkV} {B : Bk} (h : BkIn w V B) (hk : Kept w.heap.size w w') : BkIn w' V B := by
 have := (h.below hk.below (nR _)).tp (τ := w'.tape) (d := w'.drawn)
 rwa [tp_tp, tp_self] at this
theorem SlI.kept {sa : Option Addr} {xs : List Int} (h : SlI w sa xs) (hk : Kept w.heap.size w w') : SlI w' sa xs := by
 have := (h.below hk.below (nR _)).tp (τ := w'.tape) (d := w'.drawn)
 rwa [tp_tp, tp_self] at this
theorem Var2.kept (h : Var2 w) (hk : Kept w.heap.size w w') : Var2 w' := by
 have := (h.below hk.below (nR _)).tp (τ := w'.tape) (d := w'.drawn)
 rwa [tp_tp, tp_self] at this
theorem Vars.kept (h : Vars w) (hk : Kept w.heap.size w w') : Vars w' := ⟨h.v2.kept hk, kept_cell hk (nR _) h.g0, kept_cell hk (nR _) h.g1, Nat.le_trans h.gl hk.size⟩
theorem BkRows.kept {V : BkV} (h : BkRows w V) (hk : Kept w.heap.size w w') : BkRows w' V := by
 have hr : ∀ {o : Option Addr}, RowAt w o -> RowAt w' o := fun h a ha => by
  obtain ⟨c, t, z, h1⟩ := h a ha
  exact ⟨c, t, z, by rw [hk.block _ (aS.1 h1).1]; exact h1⟩
 exact ⟨hr h.ta, hr h.la, hr h.pa⟩
end
def trk (xs : List Int) : Nat -> Int := fun k => xs.getD k 0
theorem trk_pos {xs : List Int} (h : badTrunk xs = false) (k : Nat) : 0 <= trk xs k /\ trk xs k <= 20 := by
 unfold badTrunk at h
 rw [List.any_eq_false] at h
 unfold trk
 rw [lD]
 cases e : xs[k]? with
 | none => simp
 | some x =>
  have := h x (List.mem_of_getElem? e)
  simp only [Bool.not_eq_true', Bool.not_eq_false] at this
  have := btw_t this
  simpa using this
theorem rented_ok {B : Bk} {xs : List Int} (h : rentedA B xs true = 0) : B.alarm = 0 /\ xs.length = B.links.length /\ badTrunk xs = false := by
 unfold rentedA at h
 by_cases h0 : B.alarm = 0
 ·rw [if_pos h0] at h
  by_cases h1 : xs.length = B.links.length
  ·rw [if_pos h1] at h
   cases h2 : badTrunk xs with
   | true => rw [h2] at h; cases h
   | false => exact ⟨h0, h1, rfl⟩
  ·rw [if_neg h1] at h; cases h
 ·rw [if_neg h0] at h; exact absurd h h0
theorem lkPre_of {w : World} {V : BkV} {B : Bk} {xs : List Int} {xa : Option Addr} (hs : BkIn w V B) (hr : BkRows w V) (hv : Vars w) (hx : SlI w xa xs) (h : rentedA B xs true = 0) : ∃ tb tofs, xa = some ⟨tb, tofs, none⟩ /\ LkPre w V B tb tofs (trk xs) := by
 obtain ⟨h0, h1, h2⟩ := rented_ok h
 have G := good_of_alarm h0
 have hl := G.fine.links
 have ht := G.fine.towns
 unfold Bk.spokes at hl
 obtain ⟨tb, tofs, e, _⟩ := hx 0 _ (lG (by omega))
 refine ⟨tb, tofs, e, G.fine, G.steps, hs.at, ⟨fun k hk => ?_, fun k => (trk_pos h2 k).1⟩, hr.ta, hr.la, hr.pa, hv.g0, hv.g1, hv.gl⟩
 have hk' : xs[k]? = some xs[k] := lG (by omega)
 obtain ⟨b, o, e2, h3⟩ := hx k _ hk'
 rw [e] at e2
 cases e2
 have : trk xs k = xs[k] := by
  unfold trk
  rw [lD, hk']
  rfl
 rw [this]
 exact h3
def claimFrom (B : Bk) (T : Nat -> Int) : Nat -> Nat -> Int -> Int
 | 0, _, c => c
 | n + 1, i, c => if 0 <= B.lackIn T false i then 2 else claimFrom B T n (i + 1) (if 0 <= B.lackIn T true i then 0 else c)
def enoughV (B : Bk) (xs : List Int) : Value := if rentedA B xs true = 0 then .tuple #[.int .i64 (claimFrom B (trk xs) B.hours.toNat 0 1), .int .i64 0] else .tuple #[.int .i64 0, .int .i64 (rentedA B xs true)]
set_option maxHeartbeats 1000000 in
theorem c21_bad (V : BkV) (B : Bk) (xs : List Int) (xa : Option Addr) (xc : Nat) (w : World) (hs : BkIn w V B) (hv : Var2 w) (hx : SlI w xa xs) (hxl : xs.length <= 1000000) (hbad : rentedA B xs true ≠ 0) :
  Calls tP 21 #[V.val B, .slice xa xs.length xc] w fun e w' => e = .returned (enoughV B xs) /\ Below w.heap.size w w' := by
 obtain ⟨ta, la, pa, tc, lc, pc⟩ := V
 have hb0 : Below w.heap.size w (w.alloc (.cells #[.int .i64 B.hours, .slice ta B.towns.length tc, .slice la B.links.length lc, .slice pa B.pairs.length pc] 26)) := (Below.refl _ _).alloc (nR _) _
 have HC := Lib.hid (c55 ⟨ta, la, pa, tc, lc, pc⟩ B xs xa xc true _ (hs.below hb0 (nR _)) (hv.below hb0 (nR _)) (hx.below hb0 (nR _)) hxl)
 have HE := Lib.hid (show enoughV B xs = .tuple #[.int .i64 0, .int .i64 (rentedA B xs true)] by unfold enoughV; rw [if_neg hbad])
 have HB0 := Lib.hid hb0
 clear hs hv hx hb0
 generalize rentedA B xs true = al at *
 go_enter Tryd.func21, Tryd.ntmps21
 go_wp2_with fail
 refine HC.out.mono ?_
 rintro e w1 ⟨rfl, hb1⟩
 rw [resB_bad hbad]
 have Hbw := Lib.hid (HB0.out.trans (hb1.mono (by simp)))
 clear hb1
 go_wp2
 go_ret2
 exact ⟨by rw [HE.out]; rfl, Hbw.out.trans ((Below.refl _ _).alloc Hbw.out.size _)⟩
noncomputable def enBody : Code := Tryd.f21.body.getD .skip
noncomputable def enOps : Array Oper := match enBody with
 | .seq _ (.seq _ (.seq _ (.seq _ (.seq (.seq (.region _ ops _) _) _)))) => ops
 | _ => #[]
noncomputable def enLoop : Code := match enBody with
 | .seq _ (.seq _ (.seq _ (.seq _ (.seq (.seq _ c) _)))) => c
 | _ => .skip
noncomputable def enEnd : Code := match enBody with
 | .seq _ (.seq _ (.seq _ (.seq _ (.seq _ c)))) => c
 | _ => .skip
def EA (t0 t1 t2 t6 t7 t8 t11 t12 t13 t14 t15 t16 t17 t18 t20 t21 t22 t23 t24 : Value) : Act := ⟨#[t0, t1, t2, ud, .int .i64 0, .int .i64 0, t6, t7, t8, ud, ud, t11, t12, t13, t14, t15, t16, t17, t18, ud, t20, t21, t22, t23, t24, ud, ud, ud, ud, ud, ud, ud, ud, ud, ud, ud, ud, ud], []⟩
def EnAt (w : World) (V : BkV) (B : Bk) (xv : Value) (it : List Item) (a : Act) (w' : World) : Prop :=
 ∃ t0 t2 t6 t7 t11 t12 t13 t14 t15 t16 t17 t18, it = [.inRegion enOps [2, 3, 4], .code enLoop, .code enEnd] /\ a = EA t0 xv t2 t6 t7 (.int .i64 1) t11 t12 t13 t14 t15 t16 t17 t18 (V.val B) xv ud ud ud /\ Kept w.heap.size w w'
set_option maxHeartbeats 1000000 in
theorem en_comes (V : BkV) (B : Bk) (xs : List Int) (xa : Option Addr) (xc : Nat) (w : World) (hs : BkIn w V B) (hv : Var2 w) (hx : SlI w xa xs) (hxl : xs.length <= 1000000) (hok : rentedA B xs true = 0) :
  Comes tP [.code enBody] (EnAt w V B (.slice xa xs.length xc)) ⟨#[V.val B, .slice xa xs.length xc, ud, ud, ud, ud, ud, ud, ud, ud, ud, ud, ud, ud, ud, ud, ud, ud, ud, ud, ud, ud, ud, ud, ud, ud, ud, ud, ud, ud, ud, ud, ud, ud, ud, ud, ud, ud], []⟩ w := by
 obtain ⟨ta, la, pa, tc, lc, pc⟩ := V
 have hb0 : Below w.heap.size w (w.alloc (.cells #[.int .i64 B.hours, .slice ta B.towns.length tc, .slice la B.links.length lc, .slice pa B.pairs.length pc] 26)) := (Below.refl _ _).alloc (nR _) _
 have HC := Lib.hid (c55 ⟨ta, la, pa, tc, lc, pc⟩ B xs xa xc true _ (hs.below hb0 (nR _)) (hv.below hb0 (nR _)) (hx.below hb0 (nR _)) hxl)
 have HB0 := Lib.hid hb0
 clear hs hv hx hb0
 simp only [enBody, Tryd.f21, Option.getD_some]
 refine comes_push (comes_code ?_)
 go_wp2
 refine comes_push (comes_code ?_)
 go_wp2_with fail
 refine HC.out.mono ?_
 rintro e w1 ⟨rfl, hb1⟩
 rw [hok, resB_ok]
 have Hbw := Lib.hid (HB0.out.trans (hb1.mono (by simp)))
 clear hb1 HC
 go_wp2
 refine comes_push (comes_code ?_)
 go_wp2
 refine comes_push (comes_code ?_)
 go_wp2
 refine comes_push (comes_push (comes_reg ?_))
 refine comes_val rfl rfl (v := .agg #[.int .i64 B.hours, .slice ta B.towns.length tc, .slice la B.links.length lc, .slice pa B.pairs.length pc]) (w1 := w1.alloc (.cells #[.int .i64 B.hours, .slice ta B.towns.length tc, .slice la B.links.length lc, .slice pa B.pairs.length pc] 89)) (by go_simp) ?_
 refine comes_val rfl rfl (v := .slice xa xs.length xc) (w1 := w1.alloc (.cells #[.int .i64 B.hours, .slice ta B.towns.length tc, .slice la B.links.length lc, .slice pa B.pairs.length pc] 89)) (by go_simp) ?_
 refine comes_here ⟨_, _, _, _, _, _, _, _, _, _, _, _, rfl, rfl, ?_⟩
 exact Kept.of_below (Hbw.out.trans ((Below.refl _ _).alloc Hbw.out.size _))
end Go.Proofs.YtaikibfkggglgaaDoor
