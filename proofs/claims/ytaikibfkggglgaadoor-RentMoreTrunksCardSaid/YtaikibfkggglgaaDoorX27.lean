/- A part of the proof of RentMoreTrunks; no conditions of its own. -/
import Derived.Test.YtaikibfkggglgaaDoorX26
set_option maxRecDepth 100000
open Go renaming undef → ud
open Nat renaming le_refl → nR
open Go.Lib renaming hid → lH
open Go.RowKit.Below renaming refl → bR
open Go.Proofs.Tryd renaming prog → tP
open Array renaming getElem?_eq_getElem → aG
open Go.World renaming block_lt_of_cell? → wBk
namespace Go.Proofs.YtaikibfkggglgaaDoor
open Go.RowKit Go.Rent Go.Tp Go.Conc
noncomputable def lvBody : Code := Tryd.f15.body.getD .skip
noncomputable def lv5 : Code := match lvBody with
 | .seq _ (.seq _ (.seq _ (.seq _ (.seq _ c)))) => c
 | _ => .skip
structure LvBook (u : World) (b1 : Nat) (V : BkV) : Prop where
 c0 : u.cell? ⟨b1, 0, none⟩ = some (.int .i64 exB.hours)
 c1 : u.cell? ⟨b1, 1, none⟩ = some (.slice V.ta exB.towns.length V.tc)
 c2 : u.cell? ⟨b1, 2, none⟩ = some (.slice V.la exB.links.length V.lc)
 c3 : u.cell? ⟨b1, 3, none⟩ = some (.slice V.pa exB.pairs.length V.pc)
 book : BkIn u V exB
 rows : BkRows u V
 vars : Vars u
structure LvA (u : World) (ha la9 ca : Nat) : Prop where
 hub : SlI u (some ⟨ha, 0, none⟩) [4, 3, 1, 0]
 loads : SlB u (some ⟨la9, 0, none⟩) [(1, 4), (1, 3), (1, 1), (0, 0)]
 cheap : SlI u (some ⟨ca, 0, none⟩) [2, 1, 1, 2]
def LvAct (b1 ha hc la9 lc9 ca cc : Nat) (t40 t41 t42 t43 t44 t45 t46 t47 t48 t49 t50 t51 t52 t53 t54 t55 t56 t57 t58 : Value) : Act := ⟨#[.bool false, .pointer (some ⟨b1, 0, none⟩), .slice (some ⟨ha, 0, none⟩) 4 hc, .int .i64 80, .int .i64 0, .slice (some ⟨la9, 0, none⟩) 4 lc9, .int .i64 0, .slice (some ⟨ca, 0, none⟩) 4 cc, .int .i64 60, .int .i64 0, ud, ud, ud, ud, ud, ud, ud, ud, ud, ud, ud, ud, ud, ud, ud, ud, ud, ud, ud, ud, ud, ud, ud, ud, ud, ud, ud, ud, ud, ud, t40, t41, t42, t43, t44, t45, t46, t47, t48, t49, t50, t51, t52, t53, t54, t55, t56, t57, t58, ud, ud, ud, ud, ud, ud, ud, ud, ud, ud, ud, ud, ud, ud, ud, ud, ud, ud, ud, ud, ud, ud, ud, ud, ud, ud, ud, ud, ud, ud, ud, ud, ud, ud, ud, ud, ud, ud, ud, ud, ud, ud, ud, ud, ud, ud, ud, ud, ud, ud, ud, ud, ud, ud, ud, ud, ud, ud, ud, ud, ud, ud, ud, ud, ud, ud, ud, ud, ud, ud, ud, ud, ud, ud, ud, ud, ud, ud, ud, ud, ud, ud, ud, ud, ud, ud, ud, ud, ud, ud, ud, ud, ud, ud, ud, ud, ud, ud, ud, ud, ud, ud, ud, ud, ud, ud, ud, ud, ud, ud, ud, ud, ud, ud, ud, ud, ud, ud, ud, ud, ud, ud, ud, ud, ud, ud, ud, ud, ud, ud, ud, ud, ud, ud, ud, ud, ud, ud, ud, ud, ud, ud, ud, ud, ud, ud, ud, ud, ud, ud, ud, ud, ud, ud, ud, ud, ud, ud, ud, ud, ud, ud, ud, ud, ud, ud, ud, ud, ud, ud, ud, ud, ud, ud, ud, ud, ud, ud, ud, ud, ud, ud, ud, ud, ud, ud, ud, ud, ud, ud, ud, ud, ud, ud, ud, ud, ud, ud, ud, ud, ud, ud, ud, ud, ud, ud, ud, ud, ud, ud, ud, ud, ud, ud, ud, ud, ud, ud, ud, ud, ud, ud, ud, ud, ud, ud, ud, ud, ud, ud, ud, ud, ud, ud, ud, ud, ud, ud, ud, ud, ud, ud, ud], []⟩
theorem ex_49 (V : BkV) (u : World) (hs : BkIn u V exB) (hv : Vars u) : Calls tP 49 #[V.val exB] u fun e u' => ∃ fa fc, e = .returned (.tuple #[.slice (some ⟨fa, 0, none⟩) 4 fc, .int .i64 80, .int .i64 0]) /\ SlI u' (some ⟨fa, 0, none⟩) [4, 3, 1, 0] /\ Below u.heap.size u u' := by
 refine (c49 V exB u hs hv).mono ?_
 rintro e u' ⟨h1, _, h3⟩
 obtain ⟨fa, fc, e1, e2, _⟩ := h1 ex_alarm
 rw [ex_hub] at e1 e2
 exact ⟨fa, fc, e1, e2, h3⟩
theorem ex_39 (V : BkV) (u : World) (hs : BkIn u V exB) (hv : Vars u) : Calls tP 39 #[V.val exB] u fun e u' => ∃ fa fc, e = .returned (.tuple #[.slice (some ⟨fa, 0, none⟩) 4 fc, .int .i64 60, .int .i64 0]) /\ SlI u' (some ⟨fa, 0, none⟩) [2, 1, 1, 2] /\ Below u.heap.size u u' := by
 refine (c39 V exB u hs hv).mono ?_
 rintro e u' ⟨h1, _, h3⟩
 obtain ⟨fa, fc, e1, e2, _⟩ := h1 ex_alarm
 rw [ex_any] at e1 e2
 exact ⟨fa, fc, e1, e2, h3⟩
theorem ex_16 (V : BkV) (u : World) (b cap : Nat) (hs : BkIn u V exB) (hv : Vars u) (hx : SlI u (some ⟨b, 0, none⟩) [4, 3, 1, 0]) : Calls tP 16 #[V.val exB, .slice (some ⟨b, 0, none⟩) 4 cap, .int .i64 0] u fun e u' => ∃ fa fc, e = .returned (.tuple #[.slice (some ⟨fa, 0, none⟩) 4 fc, .int .i64 0]) /\ SlB u' (some ⟨fa, 0, none⟩) [(1, 4), (1, 3), (1, 1), (0, 0)] /\ Below u.heap.size u u' := by
 refine (c16 V exB [4, 3, 1, 0] (some ⟨b, 0, none⟩) cap 0 u hs hv hx (by decide)).mono ?_
 rintro e u' ⟨h1, _, h3⟩
 obtain ⟨fa, fc, e1, e2, _⟩ := h1 ex_loads
 have hb : bandsTo exB (trk [4, 3, 1, 0]) (0 : Int).toNat exB.links.length = [(1, 4), (1, 3), (1, 1), (0, 0)] := ex_bands
 rw [hb] at e2
 exact ⟨fa, fc, e1, e2, h3⟩
theorem sl4 {u : World} {b : Nat} {p q r s : Int} (h0 : u.cell? ⟨b, 0, none⟩ = some (.int .i64 p)) (h1 : u.cell? ⟨b, 1, none⟩ = some (.int .i64 q)) (h2 : u.cell? ⟨b, 2, none⟩ = some (.int .i64 r)) (h3 : u.cell? ⟨b, 3, none⟩ = some (.int .i64 s)) : SlI u (some ⟨b, 0, none⟩) [p, q, r, s] := fun j x hx => by
 match j, hx with
 | 0, hx => cases hx; exact ⟨b, 0, rfl, h0⟩
 | 1, hx => cases hx; exact ⟨b, 0, rfl, h1⟩
 | 2, hx => cases hx; exact ⟨b, 0, rfl, h2⟩
 | 3, hx => cases hx; exact ⟨b, 0, rfl, h3⟩
set_option maxHeartbeats 4000000 in
theorem lv_A (w : World) (hv : Vars w) :
  Comes tP [.code lvBody] (fun it a u => ∃ V b1 ha hc la9 lc9 ca cc t40 t41 t42 t43 t44 t45 t46 t47 t48 t49 t50 t51 t52 t53 t54 t55 t56 t57 t58, it = [.code lv5] /\ a = LvAct b1 ha hc la9 lc9 ca cc t40 t41 t42 t43 t44 t45 t46 t47 t48 t49 t50 t51 t52 t53 t54 t55 t56 t57 t58 /\ LvBook u b1 V /\ LvA u ha la9 ca /\ Below w.heap.size w u) ⟨#[ud, ud, ud, ud, ud, ud, ud, ud, ud, ud, ud, ud, ud, ud, ud, ud, ud, ud, ud, ud, ud, ud, ud, ud, ud, ud, ud, ud, ud, ud, ud, ud, ud, ud, ud, ud, ud, ud, ud, ud, ud, ud, ud, ud, ud, ud, ud, ud, ud, ud, ud, ud, ud, ud, ud, ud, ud, ud, ud, ud, ud, ud, ud, ud, ud, ud, ud, ud, ud, ud, ud, ud, ud, ud, ud, ud, ud, ud, ud, ud, ud, ud, ud, ud, ud, ud, ud, ud, ud, ud, ud, ud, ud, ud, ud, ud, ud, ud, ud, ud, ud, ud, ud, ud, ud, ud, ud, ud, ud, ud, ud, ud, ud, ud, ud, ud, ud, ud, ud, ud, ud, ud, ud, ud, ud, ud, ud, ud, ud, ud, ud, ud, ud, ud, ud, ud, ud, ud, ud, ud, ud, ud, ud, ud, ud, ud, ud, ud, ud, ud, ud, ud, ud, ud, ud, ud, ud, ud, ud, ud, ud, ud, ud, ud, ud, ud, ud, ud, ud, ud, ud, ud, ud, ud, ud, ud, ud, ud, ud, ud, ud, ud, ud, ud, ud, ud, ud, ud, ud, ud, ud, ud, ud, ud, ud, ud, ud, ud, ud, ud, ud, ud, ud, ud, ud, ud, ud, ud, ud, ud, ud, ud, ud, ud, ud, ud, ud, ud, ud, ud, ud, ud, ud, ud, ud, ud, ud, ud, ud, ud, ud, ud, ud, ud, ud, ud, ud, ud, ud, ud, ud, ud, ud, ud, ud, ud, ud, ud, ud, ud, ud, ud, ud, ud, ud, ud, ud, ud, ud, ud, ud, ud, ud, ud, ud, ud, ud, ud, ud, ud, ud, ud, ud, ud, ud, ud, ud, ud, ud, ud, ud, ud, ud, ud, ud, ud, ud, ud, ud, ud, ud, ud, ud, ud, ud, ud, ud, ud, ud, ud, ud, ud], []⟩ w := by
 simp only [lvBody, Tryd.f15, Option.getD_some]
 refine comes_push (comes_code ?_)
 go_wp2
 refine comes_push (comes_code ?_)
 go_wp2_with fail
 refine (c54 w).mono ?_
 rintro e w0 ⟨V, rfl, hs, hr, hb⟩
 obtain ⟨ta, la, pa, tc, lc, pc⟩ := V
 go_wp2
 generalize hWd : w0.alloc (.cells #[.int .i64 exB.hours, .slice ta exB.towns.length tc, .slice la exB.links.length lc, .slice pa exB.pairs.length pc] 26) = W
 have HBW : Hid (Below w.heap.size w W) := lH (by subst hWd; exact hb.trans (((bR _ _).alloc (nR _) _).mono hb.size))
 have hbW : Below w0.heap.size w0 W := by subst hWd; exact (bR _ _).alloc (nR _) _
 have k0 : W.cell? ⟨w0.heap.size, 0, none⟩ = some (.int .i64 exB.hours) := by subst hWd; go_simp
 have k1 : W.cell? ⟨w0.heap.size, 1, none⟩ = some (.slice ta exB.towns.length tc) := by subst hWd; go_simp
 have k2 : W.cell? ⟨w0.heap.size, 2, none⟩ = some (.slice la exB.links.length lc) := by subst hWd; go_simp
 have k3 : W.cell? ⟨w0.heap.size, 3, none⟩ = some (.slice pa exB.pairs.length pc) := by subst hWd; go_simp
 have hzW : w0.heap.size < W.heap.size := by subst hWd; simp
 have hrW : BkRows W ⟨ta, la, pa, tc, lc, pc⟩ := ⟨rowAt_below hr.ta hbW, rowAt_below hr.la hbW, rowAt_below hr.pa hbW⟩
 have HB : Hid (∀ u, Below W.heap.size W u -> LvBook u w0.heap.size ⟨ta, la, pa, tc, lc, pc⟩) := lH fun u hu => ⟨cell_below hu k0 (nR _), cell_below hu k1 (nR _), cell_below hu k2 (nR _), cell_below hu k3 (nR _), (hs.below hbW (nR _)).below hu (nR _), ⟨rowAt_below hrW.ta hu, rowAt_below hrW.la hu, rowAt_below hrW.pa hu⟩, hv.below (HBW.out.trans (hu.mono HBW.out.size))⟩
 clear hWd hs hr hb hbW hrW hv
 generalize w0.heap.size = b1 at *
 refine comes_push (comes_code ?_)
 go_wp2_with fail
 refine (ex_49 ⟨ta, la, pa, tc, lc, pc⟩ W (HB.out W (bR _ _)).book (HB.out W (bR _ _)).vars).mono ?_
 rintro e w2 ⟨ha, hc, rfl, hhub, hb2⟩
 have HH := lH hhub
 have HB2 := lH hb2
 have d0 := cell_below hb2 k0 (nR _)
 have d1 := cell_below hb2 k1 (nR _)
 have d2 := cell_below hb2 k2 (nR _)
 have d3 := cell_below hb2 k3 (nR _)
 have hz2 : b1 < w2.heap.size := Nat.lt_of_lt_of_le hzW hb2.size
 clear hhub hb2 k0 k1 k2 k3
 go_wp2
 refine comes_push (comes_code ?_)
 go_wp2_with fail
 generalize hWe : w2.alloc (.cells #[.int .i64 4, .int .i64 3, .int .i64 1, .int .i64 0] 3) = W3
 have hbe : Below w2.heap.size w2 W3 := by subst hWe; exact (bR _ _).alloc (nR _) _
 have hsl : SlI W3 (some ⟨w2.heap.size, 0, none⟩) [4, 3, 1, 0] := by subst hWe; exact sl4 (by go_simp) (by go_simp) (by go_simp) (by go_simp)
 have HB3 := lH (HB2.out.trans (hbe.mono HB2.out.size))
 have hb3 := HB.out W3 HB3.out
 refine (ex_16 ⟨ta, la, pa, tc, lc, pc⟩ W3 w2.heap.size 4 hb3.book hb3.vars hsl).mono ?_
 rintro e w4 ⟨la9, lc9, rfl, hlo, hb4⟩
 have HH4 := lH ((HH.out.below hbe (nR _)).below hb4 (nR _))
 have HL4 := lH hlo
 have HB4 := lH (HB3.out.trans (hb4.mono HB3.out.size))
 have hb4' := HB.out w4 HB4.out
 have e0 := hb4'.c0
 have e1 := hb4'.c1
 have e2 := hb4'.c2
 have e3 := hb4'.c3
 have HK4 := lH hb4'
 have hz4 : b1 < w4.heap.size := wBk _ _ e0
 clear hWe hbe hsl hb3 hlo hb4 hb4' d0 d1 d2 d3 HH HB3 HB2
 go_wp2
 refine comes_push (comes_code ?_)
 go_wp2_with fail
 refine (ex_39 ⟨ta, la, pa, tc, lc, pc⟩ w4 HK4.out.book HK4.out.vars).mono ?_
 rintro e w5 ⟨ca, cc, rfl, hch, hb5⟩
 have HA : Hid (LvA w5 ha la9 ca) := lH ⟨HH4.out.below hb5 (nR _), HL4.out.below hb5 (nR _), hch⟩
 have HB5 := lH (HB4.out.trans (hb5.mono HB4.out.size))
 clear hch hb5 e0 e1 e2 e3 HH4 HL4
 go_wp2
 refine comes_here ⟨⟨ta, la, pa, tc, lc, pc⟩, b1, ha, hc, la9, lc9, ca, cc, _, _, _, _, _, _, _, _, _, _, _, _, _, _, _, _, _, _, _, rfl, rfl, HB.out w5 HB5.out, HA.out, HBW.out.trans (HB5.out.mono HBW.out.size)⟩
end Go.Proofs.YtaikibfkggglgaaDoor
namespace Go.Tp
open Go.Conc Go.RowKit
def tame (u : World) : World := mend { u with heap := #[] } u
theorem tame_started (u : World) : Started (tame u) := mend_started fun n o h => by simp at h
def tameJ (u : World) : Junk := mendJ { u with heap := #[] } u (fun _ => none)
theorem tameJ_ok (u : World) : (tameJ u).ok := mendJ_ok fun n o h => by cases h
theorem tame_tp (u : World) : (tame u).tp u.tape u.drawn (tameJ u) = u := mend_tp (T := u.tape) (d := u.drawn) (Nat.zero_le _) (fun _ hb => absurd hb (Nat.not_lt_zero _)) rfl
theorem tame_size (u : World) : (tame u).heap.size = u.heap.size := mend_size _ _
theorem tame_cells {u : World} {n : Nat} {c : Array Value} {t : TypeId} {z : Nat × Nat} (h : u.heap[n]? = some (.cells c t z)) : (tame u).heap[n]? = some (.cells c t z) := mend_cells (Nat.zero_le _) h
theorem stepG_done {P : Program} {fr : Frame} {w : World} {v : Value} {fn : Func} (hm : fr.mode = .returning) (hd : fr.defers = []) (hk : fr.kind = .normal) (hf : P.funcs[fr.fn]? = some fn) (hr : results fn fr.tmps = pure v) (hi : P.inits.idxOf? fr.fn = none) : stepG P true (G fr []) w = .ended (.done v) w #[] := by
 simp [G, stepG, unwind, doReturn, hm, hd, hk, hf, hr, hi, seen, GStep.after]
theorem good_run {P : Program} (G' : Good P) {f : FuncId} {fn : Func} {x : Code} (hf : P.funcs[f]? = some fn) (hb : fn.body = some x) (hi : P.inits.idxOf? f = none)
  (hres : ∀ t, ∃ v, results fn t = pure v) (W : World) (args : Array Value) (R Post : Value -> World -> Prop)
  (hR : ∀ (v : Value) (w : World) (τ : Nat -> Question -> Nat) (d d' : Nat) (j : Junk), j.ok -> (tame W).heap.size <= w.heap.size -> (∀ n, n < (tame W).heap.size -> j n = tameJ W n) -> R v (w.tp τ d noJ) -> Post v (w.tp W.tape d' j))
  (h : GL P f [.code x] R { tmps := args ++ Array.replicate (fn.ntmps - args.size) ud, defers := [] } (tame W)) :
  ∃ M last o w' t', runNT P (M + 1) (solo (G (Frame.enter P f args .normal) []) W) #[] = (.ended o w', t') /\ runN P M (solo (G (Frame.enter P f args .normal) []) W) = .next last /\ step P last = .ended o w' /\ Conc.Good P Post last o w' t' := by
 have hok : FrameOk (Frame.enter P f args .normal) := enter_ok G'.bodies _ _ (by decide)
 rw [enter_base args hf hb] at hok ⊢
 have hl := h [] ⟨⟨hok, fun y hy => by cases hy⟩, rfl, rfl, tame_started W⟩
 obtain ⟨N, gs', g', w', d', j', sl', t', q', ⟨hj', hz', hJ'⟩, hrun, h0, ⟨⟨v, τ, d, ⟨fr, rfl, hfr, hlv⟩, hv⟩, _⟩, hL, hP⟩ := hl W.tape (tameJ W) (tameJ_ok W) #[_] W.drawn none #[] (fun _ => 0) rfl (leavers_one P _) (past_nil.mono (Nat.zero_le _))
 rw [tame_tp] at hrun
 have hat : Goes P true AtRel (fun _ _ es => es = #[]) (AtEnd P NoShun w'.heap.size Post) 0 (G fr []) (w'.tp W.tape d' j') := by
  rintro w1 ⟨d1, rfl⟩
  refine ⟨rfl, v, #[], ?_, fun e he => by simp at he, ?_⟩
  ·obtain ⟨fn', hf', hr'⟩ := hlv.2.2.2
   have e : fn' = fn := by rw [hfr, hf] at hf'; exact (Option.some.inj hf').symm
   subst e
   obtain ⟨v', e'⟩ := hres fr.tmps
   rw [e'] at hr'
   have : v' = v := by simpa using hr'
   subst this
   exact stepG_done hlv.1 hlv.2.1 hlv.2.2.1 hf' e' (by rw [hfr]; exact hi)
  ·have := hR v w' τ d d1 j' hj' hz' hJ' hv
   exact this
 obtain ⟨M, last, o, w2, t2, h1, h2, h3, h4⟩ := beside_ends (fun w w' es e => by subst e; intro e he; simp at he) h0 hL hP hat
 have hr : runNT P N (solo (G ((baseN f).at { tmps := args ++ Array.replicate (fn.ntmps - args.size) ud, defers := [] } [.code x]) []) W) #[] = (.next (crowd gs' (w'.tp W.tape d' j') sl'), t') := hrun
 refine ⟨N + M, last, o, w2, t2, ?_, ?_, h3, h4⟩
 ·rw [Nat.add_assoc, runNT_add, hr]; exact h1
 ·rw [runN_add, <- runNT_fst P N _ #[], hr]; exact h2
end Go.Tp
namespace Go.Proofs.YtaikibfkggglgaaDoor
open Go.RowKit Go.Rent Go.Tp Go.Conc
theorem SlB.kept {w w' : World} {sa : Option Addr} {xs : List (Int × Int)} (h : SlB w sa xs) (hk : Kept w.heap.size w w') : SlB w' sa xs := by
 have := (h.below hk.below (nR _)).tp (τ := w'.tape) (d := w'.drawn)
 rwa [tp_tp, tp_self] at this
theorem kept_tape {w : World} {τ : Nat -> Question -> Nat} {d : Nat} : Kept w.heap.size w (w.tp τ d noJ) := kept_tp.2 (Kept.of_below (bR _ _))
def SlA (a : Act) : List (Nat × Value) -> Prop
 | [] => True
 | (k, v) :: l => a.tmps[k]?.getD ud = v /\ SlA a l
def Sl (a : Act) (N : Nat) (l : List (Nat × Value)) : Prop := a.tmps.size = N /\ a.defers = [] /\ SlA a l
theorem SlA.other {a a' : Act} {d : Nat} (h : ∀ j, j ≠ d -> a'.tmps[j]?.getD ud = a.tmps[j]?.getD ud) : ∀ {l : List (Nat × Value)}, (l.map (·.1)).contains d = false -> SlA a l -> SlA a' l
 | [], _, _ => trivial
 | (k, v) :: l, hn, hl => by
  simp only [List.map_cons, List.contains_cons, Bool.or_eq_false_iff, beq_eq_false_iff_ne] at hn
  exact ⟨(h k (Ne.symm hn.1)).trans hl.1, SlA.other h hn.2 hl.2⟩
theorem Sl.put {a : Act} {N d : Nat} {l : List (Nat × Value)} {v : Value} (h : Sl a N l) (hd : d < N) (hn : (l.map (·.1)).contains d = false) : Sl (a.put (some d) v) N ((d, v) :: l) := by
 have p := put_put a (d := d) v (by rw [h.1]; exact hd)
 exact ⟨p.size.trans h.1, p.defers.trans h.2.1, p.same, h.2.2.other p.other hn⟩
def up (t : Nat -> Value) : Nat -> Nat -> List Value
 | 0, _ => []
 | n + 1, k => t k :: up t n (k + 1)
theorem up_len (t : Nat -> Value) : ∀ n k, (up t n k).length = n
 | 0, _ => rfl
 | n + 1, k => by unfold up; rw [List.length_cons, up_len t n]
theorem up_get (t : Nat -> Value) : ∀ n k i, i < n -> (up t n k)[i]? = some (t (k + i))
 | 0, _, _, h => by omega
 | n + 1, k, 0, _ => rfl
 | n + 1, k, i + 1, h => by
  unfold up
  rw [List.getElem?_cons_succ, up_get t n (k + 1) i (by omega), show k + 1 + i = k + (i + 1) by omega]
def SlT (t : Nat -> Value) : List (Nat × Value) -> Prop
 | [] => True
 | (k, v) :: l => t k = v /\ SlT t l
theorem SlT.of {a : Act} : ∀ {l : List (Nat × Value)}, SlA a l -> SlT (fun k => a.tmps[k]?.getD ud) l
 | [], _ => trivial
 | (_, _) :: _, h => ⟨h.1, SlT.of h.2⟩
theorem Sl.lit {a : Act} {N : Nat} {l : List (Nat × Value)} (h : Sl a N l) : ∃ t : Nat -> Value, a = ⟨(up t N 0).toArray, []⟩ /\ SlT t l := by
 refine ⟨fun k => a.tmps[k]?.getD ud, ?_, SlT.of h.2.2⟩
 obtain ⟨tm, df⟩ := a
 obtain ⟨h1, h2, _⟩ := h
 simp only at h1 h2
 subst h2
 congr 1
 apply Array.ext_getElem?
 intro i
 simp only [List.getElem?_toArray]
 by_cases hi : i < N
 ·rw [up_get _ _ _ _ hi, Nat.zero_add, aG (by omega)]; rfl
 ·rw [Array.getElem?_eq_none (by omega), List.getElem?_eq_none (by rw [up_len]; omega)]
structure LawBk (u : World) (b1 : Nat) (V : BkV) (B : Bk) : Prop where
 c0 : u.cell? ⟨b1, 0, none⟩ = some (.int .i64 B.hours)
 c1 : u.cell? ⟨b1, 1, none⟩ = some (.slice V.ta B.towns.length V.tc)
 c2 : u.cell? ⟨b1, 2, none⟩ = some (.slice V.la B.links.length V.lc)
 c3 : u.cell? ⟨b1, 3, none⟩ = some (.slice V.pa B.pairs.length V.pc)
 book : BkIn u V B
 rows : BkRows u V
 vars : Vars u
theorem LawBk.kept {u u' : World} {b1 : Nat} {V : BkV} {B : Bk} (h : LawBk u b1 V B) (hk : Kept u.heap.size u u') : LawBk u' b1 V B :=
 ⟨kept_cell hk (nR _) h.c0, kept_cell hk (nR _) h.c1, kept_cell hk (nR _) h.c2, kept_cell hk (nR _) h.c3, h.book.kept hk, h.rows.kept hk, h.vars.kept hk⟩
theorem LawBk.below {u u' : World} {b1 : Nat} {V : BkV} {B : Bk} (h : LawBk u b1 V B) (hk : Below u.heap.size u u') : LawBk u' b1 V B := h.kept (Kept.of_below hk)
theorem kept_from {w u : World} {τ : Nat -> Question -> Nat} (hk : Kept w.heap.size w u) {u' : World} (h : Below (u.tp τ 0 noJ).heap.size (u.tp τ 0 noJ) u') : Kept w.heap.size w u' :=
 hk.trans ((kept_tpl.1 (by have := Kept.of_below h; rwa [size_tp] at this)).mono hk.size)
theorem gl_comesT {f : FuncId} {R : Value -> World -> Prop} {a : Act} {w : World} {it : List Item} {Q : (Nat -> Question -> Nat) -> List Item -> Act -> World -> Prop} (h : ∀ τ, Comes tP it (Q τ) a (w.tp τ 0 noJ)) (k : ∀ τ it' a' w', Q τ it' a' w' -> GL tP f it' R a' w') : GL tP f it R a w :=
 gl_comes good (Q := fun it a u => ∃ τ, Q τ it a u) (fun τ => (h τ).mono fun _ _ _ q => ⟨τ, q⟩) fun it a u ⟨τ, q⟩ => k τ it a u q
def LawR (w0 : World) (v : Value) (w' : World) : Prop := v = .bool true /\ Kept w0.heap.size w0 w'
def LivesL : Prop := ∀ w, Vars w -> CallsL tP 15 #[] w fun v w' => v = .bool true /\ Kept w.heap.size w w'
section
variable {f : FuncId} {fn : Func} {N r : Nat} {a : Act} {w w0 : World} {l : List (Nat × Value)} {ops : Array Oper} {i d : Nat} {rest : List Nat} {kk : List Item} {R : Value -> World -> Prop} {o o0 o1 o2 : Oper}
theorem run15 {a : Act} (p0 : o0.op = .call { callee := .value (.func 15), args := #[], argTypes := #[] }) (u : World) : (execOp a.eval o0).run tP u = .ok (.enter 15 #[]) u := by
 simp [execOp, p0, go_sem]
theorem gl_ret {v : Value} (hf : tP.funcs[f]? = some fn) (hd : a.defers = []) (hr : ∀ u, (results fn a.tmps).run tP u = .ok v u) (hR : ∀ τ, R v (w.tp τ 0 noJ)) : GL tP f (.code .ret :: kk) R a w :=
 gl_code good (fun _ _ => False) hf (fun τ => wp_ret ⟨hd, v, hr _, v, rfl, hR τ⟩) fun _ _ h => h.elim
theorem gl_putS {v : Value} (hS : Sl a N l) (ho : ops[i]? = some o) (hw : Region.wanted o (yielded ops a.tmps) = true) (hdst : o.dst = some d) (hd : d < N) (hn : (l.map (·.1)).contains d = false)
  (hr : ∀ τ, (execOp a.eval o).run tP (w.tp τ 0 noJ) = .ok (.value v) (w.tp τ 0 noJ)) (h : ∀ a', Sl a' N ((d, v) :: l) -> GL tP f (.inRegion ops rest :: kk) R a' w) : GL tP f (.inRegion ops (i :: rest) :: kk) R a w :=
 gl_op good (fun v' u => v' = v /\ ∃ τ, u = w.tp τ 0 noJ) ho hw (fun τ => ⟨v, _, hr τ, rfl, τ, rfl⟩) fun v' u ⟨e, τ, e2⟩ => by
  subst e e2
  have := h _ (by have := hS.put hd hn (v := v'); rw [<- hdst] at this; exact this)
  exact gl_tp (τ := w.tape) (d := w.drawn) (by rw [tp_tp, tp_self]; exact this)
theorem gl_callS {g : FuncId} {args : Array Value} {R1 : Value -> World -> Prop} (hS : Sl a N l) (ho : ops[i]? = some o) (hw : Region.wanted o (yielded ops a.tmps) = true) (hdst : o.dst = some d) (hd : d < N) (hn : (l.map (·.1)).contains d = false)
  (hr : ∀ u, (execOp a.eval o).run tP u = .ok (.enter g args) u) (hcall : CallsL tP g args w R1) (k : ∀ a' v w', R1 v w' -> Sl a' N ((d, v) :: l) -> GL tP f (.inRegion ops rest :: kk) R a' w') : GL tP f (.inRegion ops (i :: rest) :: kk) R a w :=
 gl_call good ho hw hr hcall fun v w' hv => k _ v w' hv (by have := hS.put hd hn (v := v); rw [<- hdst] at this; exact this)
theorem ret_slot {a : Act} {v : Value} (h : a.tmps[r]?.getD ud = v) (hr : r < a.tmps.size) (hres : fn.results = #[.tmp r]) (u : World) : (results fn a.tmps).run tP u = .ok v u := by
 simp [results, hres, aG hr] at h ⊢
 exact h
theorem gl_lives (hL : LivesL) (hf : tP.funcs[f]? = some fn) (hres : fn.results = #[.tmp r]) (h0 : ops[i]? = some o0) (h1 : ops[i + 1]? = some o1) (g0 : o0.guard = none) (g1 : o1.guard = none) (d0 : o0.dst = some d) (d1 : o1.dst = some r)
  (p0 : o0.op = .call { callee := .value (.func 15), args := #[], argTypes := #[] }) (p1 : o1.op = .assign (.tmp d)) (hd : d < N) (hr : r < N) (hdr : d ≠ r) (hS : Sl a N []) (hv : Vars w) (hk : Kept w0.heap.size w0 w) :
  GL tP f (.inRegion ops [i, i + 1] :: .code .ret :: kk) (LawR w0) a w := by
 refine gl_callS hS h0 (by unfold Region.wanted; rw [g0]) d0 hd rfl (run15 p0) (hL w hv) ?_
 rintro a1 v w1 ⟨rfl, hk1⟩ hS1
 refine gl_putS (v := .bool true) hS1 h1 (by unfold Region.wanted; rw [g1]) d1 hr (by simp [hdr.symm]) (fun u => by
  have := hS1.2.2.1
  simp [execOp, p1, go_sem, this]) fun a2 hS2 => ?_
 refine gl_regionEnd good ?_
 exact gl_ret hf hS2.2.1 (fun u => ret_slot hS2.2.2.1 (by rw [hS2.1]; exact hr) hres u) fun τ => ⟨rfl, kept_tp.2 (hk.trans (hk1.mono hk.size))⟩
theorem gl_and_lives {p q : Nat} (hL : LivesL) (hf : tP.funcs[f]? = some fn) (hres : fn.results = #[.tmp r]) (h0 : ops[i]? = some o0) (h1 : ops[i + 1]? = some o1) (h2 : ops[i + 2]? = some o2) (hw : Region.wanted o0 (yielded ops a.tmps) = true) (g1 : o1.guard = none) (g2 : o2.guard = none) (d0 : o0.dst = some d) (d1 : o1.dst = some q) (d2 : o2.dst = some r)
  (p0 : o0.op = .call { callee := .value (.func 15), args := #[], argTypes := #[] }) (p1 : o1.op = .pick (.tmp p) (.tmp d) (.const (.bool false))) (p2 : o2.op = .assign (.tmp q)) (hd : d < N) (hq : q < N) (hr : r < N) (hn : d ≠ p /\ q ≠ d /\ q ≠ p /\ r ≠ q /\ r ≠ d /\ r ≠ p) (hS : Sl a N [(p, .bool true)]) (hv : Vars w) (hk : Kept w0.heap.size w0 w) :
  GL tP f (.inRegion ops [i, i + 1, i + 2] :: .code .ret :: kk) (LawR w0) a w := by
 obtain ⟨n1, n2, n3, n4, n5, n6⟩ := hn
 refine gl_callS hS h0 hw d0 hd (by simp [n1]) (run15 p0) (hL w hv) ?_
 rintro a1 v w1 ⟨rfl, hk1⟩ hS1
 refine gl_putS (v := .bool true) hS1 h1 (by unfold Region.wanted; rw [g1]) d1 hq (by simp [n2, n3]) (fun u => by
  have e1 := hS1.2.2.1
  have e2 := hS1.2.2.2.1
  simp [execOp, p1, go_sem, e1, e2]) fun a2 hS2 => ?_
 refine gl_putS (v := .bool true) hS2 h2 (by unfold Region.wanted; rw [g2]) d2 hr (by simp [n4, n5, n6]) (fun u => by
  have := hS2.2.2.1
  simp [execOp, p2, go_sem, this]) fun a3 hS3 => ?_
 refine gl_regionEnd good ?_
 exact gl_ret hf hS3.2.1 (fun u => ret_slot hS3.2.2.1 (by rw [hS3.1]; exact hr) hres u) fun τ => ⟨rfl, kept_tp.2 (hk.trans (hk1.mono hk.size))⟩
end
section
variable {f : FuncId} {N d s : Nat} {a : Act} {w : World} {l : List (Nat × Value)} {ops : Array Oper} {i : Nat} {rest : List Nat} {kk : List Item} {R : Value -> World -> Prop} {o : Oper}
theorem gl_mv (v : Value) (hS : Sl a N l) (h : ∀ a', Sl a' N ((d, v) :: l) -> GL tP f (.inRegion ops rest :: kk) R a' w)
  (ho : ops[i]? = some o := by rfl) (hw : Region.wanted o (yielded ops a.tmps) = true := by rfl) (hdst : o.dst = some d := by rfl) (hd : d < N := by decide) (hn : (l.map (·.1)).contains d = false := by rfl)
  (hr : ∀ τ, (execOp a.eval o).run tP (w.tp τ 0 noJ) = .ok (.value v) (w.tp τ 0 noJ) := by intro τ; have h := (‹Sl _ _ _›).2.2; simp only [SlA] at h; simp [go_sem, h]) :
  GL tP f (.inRegion ops (i :: rest) :: kk) R a w := gl_putS hS ho hw hdst hd hn hr h
theorem gl_bk {b1 : Nat} {V : BkV} {B : Bk} (hB : LawBk w b1 V B) (hS : Sl a N l) (h : ∀ a', Sl a' N ((d, V.val B) :: l) -> GL tP f (.inRegion ops rest :: kk) R a' w)
  (ho : ops[i]? = some o := by rfl) (hw : Region.wanted o (yielded ops a.tmps) = true := by rfl) (hdst : o.dst = some d := by rfl) (hd : d < N := by decide) (hn : (l.map (·.1)).contains d = false := by rfl) (hp : o.op = .load 26 (.tmp s) := by rfl)
  (hs : a.tmps[s]?.getD ud = .pointer (some ⟨b1, 0, none⟩) := by have h := (‹Sl _ _ _›).2.2; simp only [SlA] at h; simp only [h]) :
  GL tP f (.inRegion ops (i :: rest) :: kk) R a w := gl_putS hS ho hw hdst hd hn (fun τ => by
   obtain ⟨c0, c1, c2, c3, _, _, _⟩ := hB.kept (u' := w.tp τ 0 noJ) kept_tape
   obtain ⟨dd, oo, ty, po, af, gu⟩ := o
   simp only at hp
   subst hp
   go_simp) h
theorem gl_sl4 (x y z u : Int) (hS : Sl a N l) (h : ∀ a' w' b, Kept w.heap.size w w' -> SlI w' (some ⟨b, 0, none⟩) [x, y, z, u] -> Sl a' N ((d, .slice (some ⟨b, 0, none⟩) 4 4) :: l) -> GL tP f (.inRegion ops rest :: kk) R a' w')
  (ho : ops[i]? = some o := by rfl) (hw : Region.wanted o (yielded ops a.tmps) = true := by rfl) (hdst : o.dst = some d := by rfl) (hd : d < N := by decide) (hn : (l.map (·.1)).contains d = false := by rfl)
  (hp : o.op = .buildSlice 27 4 #[(0, .const (.int .i64 x)), (1, .const (.int .i64 y)), (2, .const (.int .i64 z)), (3, .const (.int .i64 u))] := by rfl) :
  GL tP f (.inRegion ops (i :: rest) :: kk) R a w :=
 gl_op good (fun v u' => ∃ b, v = .slice (some ⟨b, 0, none⟩) 4 4 /\ SlI u' (some ⟨b, 0, none⟩) [x, y, z, u] /\ Kept w.heap.size w u') ho hw (fun τ => by
  obtain ⟨dd, oo, ty, po, af, gu⟩ := o
  simp only at hp
  subst hp
  refine ⟨.slice (some ⟨(w.tp τ 0 noJ).heap.size, 0, none⟩) 4 4, (w.tp τ 0 noJ).alloc (.cells #[.int .i64 x, .int .i64 y, .int .i64 z, .int .i64 u] 3), ?_, _, rfl, sl4 ?_ ?_ ?_ ?_, kept_from (Kept.refl _ _) ((bR _ _).alloc (nR _) _)⟩
  all_goals generalize w.tp τ 0 noJ = w1
  all_goals go_simp) fun v u' ⟨b, e, hx, hk⟩ => by
  subst e
  refine h _ u' b hk hx ?_
  have := hS.put hd hn (v := .slice (some ⟨b, 0, none⟩) 4 4)
  rw [<- hdst] at this
  exact this
theorem gl_cl {g : FuncId} {args : Array Value} {R1 : Value -> World -> Prop} (hcall : CallsL tP g args w R1) (hS : Sl a N l) (k : ∀ a' v w', R1 v w' -> Sl a' N ((d, v) :: l) -> GL tP f (.inRegion ops rest :: kk) R a' w')
  (ho : ops[i]? = some o := by rfl) (hw : Region.wanted o (yielded ops a.tmps) = true := by rfl) (hdst : o.dst = some d := by rfl) (hd : d < N := by decide) (hn : (l.map (·.1)).contains d = false := by rfl)
  (hr : ∀ u, (execOp a.eval o).run tP u = .ok (.enter g args) u := by intro u; have h := (‹Sl _ _ _›).2.2; simp only [SlA] at h; simp [go_sem, h]) :
  GL tP f (.inRegion ops (i :: rest) :: kk) R a w := gl_callS hS ho hw hdst hd hn hr hcall k
end
noncomputable def lw6 : Code := match lv5 with
 | .seq _ c => c
 | _ => .skip
noncomputable def lw7 : Code := match lw6 with
 | .seq _ c => c
 | _ => .skip
noncomputable def lw8 : Code := match lw7 with
 | .seq _ c => c
 | _ => .skip
theorem lw_5 {R : Value -> World -> Prop} {b1 ha hc la9 lc9 ca cc : Nat} {a : Act} {u : World} {V : BkV} (hB : LawBk u b1 V exB) (hS : Sl a 302 [(9, .int .i64 0), (8, .int .i64 60), (7, .slice (some ⟨ca, 0, none⟩) 4 cc), (6, .int .i64 0), (5, .slice (some ⟨la9, 0, none⟩) 4 lc9), (4, .int .i64 0), (3, .int .i64 80), (2, .slice (some ⟨ha, 0, none⟩) 4 hc), (1, .pointer (some ⟨b1, 0, none⟩)), (0, .bool false)])
  (k : ∀ a' u', Kept u.heap.size u u' -> Sl a' 302 [(11, .int .i64 0), (10, .int .i64 2), (9, .int .i64 0), (8, .int .i64 60), (7, .slice (some ⟨ca, 0, none⟩) 4 cc), (6, .int .i64 0), (5, .slice (some ⟨la9, 0, none⟩) 4 lc9), (4, .int .i64 0), (3, .int .i64 80), (2, .slice (some ⟨ha, 0, none⟩) 4 hc), (1, .pointer (some ⟨b1, 0, none⟩)), (0, .bool false)] -> GL tP 15 [.code lw6] R a' u') : GL tP 15 [.code lv5] R a u := by
 simp only [lv5, lvBody, Tryd.f15, Option.getD_some]
 refine gl_seq good (gl_region good ?_)
 refine gl_bk hB hS fun a hS => ?_
 refine gl_sl4 2 1 1 0 hS fun a u1 b hk1 hx hS => ?_
 have hB1 := hB.kept hk1
 refine gl_cl (enough_L u1 V exB [2, 1, 1, 0] _ 4 hB1.book hB1.rows hB1.vars hx (by decide)) hS ?_
 rintro a v u2 ⟨rfl, hk2⟩ hS
 rw [ex_en1] at hS
 refine gl_mv (.tuple #[.int .i64 2, .int .i64 0]) hS fun a hS => ?_
 refine gl_mv (.int .i64 2) hS fun a hS => ?_
 refine gl_mv (.int .i64 0) hS fun a hS => ?_
 refine gl_mv (.int .i64 2) hS fun a hS => ?_
 refine gl_mv (.int .i64 0) hS fun a hS => ?_
 refine gl_regionEnd good ?_
 exact k a u2 (hk1.trans (hk2.mono hk1.size)) ⟨hS.1, hS.2.1, hS.2.2.1, hS.2.2.2.1, hS.2.2.2.2.2.2.2.2.2.2⟩
theorem lw_6 {R : Value -> World -> Prop} {b1 ha hc la9 lc9 ca cc : Nat} {a : Act} {u : World} {V : BkV} (hB : LawBk u b1 V exB) (hS : Sl a 302 [(11, .int .i64 0), (10, .int .i64 2), (9, .int .i64 0), (8, .int .i64 60), (7, .slice (some ⟨ca, 0, none⟩) 4 cc), (6, .int .i64 0), (5, .slice (some ⟨la9, 0, none⟩) 4 lc9), (4, .int .i64 0), (3, .int .i64 80), (2, .slice (some ⟨ha, 0, none⟩) 4 hc), (1, .pointer (some ⟨b1, 0, none⟩)), (0, .bool false)])
  (k : ∀ a' u', Kept u.heap.size u u' -> Sl a' 302 [(13, .int .i64 0), (12, .int .i64 0), (11, .int .i64 0), (10, .int .i64 2), (9, .int .i64 0), (8, .int .i64 60), (7, .slice (some ⟨ca, 0, none⟩) 4 cc), (6, .int .i64 0), (5, .slice (some ⟨la9, 0, none⟩) 4 lc9), (4, .int .i64 0), (3, .int .i64 80), (2, .slice (some ⟨ha, 0, none⟩) 4 hc), (1, .pointer (some ⟨b1, 0, none⟩)), (0, .bool false)] -> GL tP 15 [.code lw7] R a' u') : GL tP 15 [.code lw6] R a u := by
 simp only [lw6, lv5, lvBody, Tryd.f15, Option.getD_some]
 refine gl_seq good (gl_region good ?_)
 refine gl_bk hB hS fun a hS => ?_
 refine gl_sl4 1 1 1 3 hS fun a u1 b hk1 hx hS => ?_
 have hB1 := hB.kept hk1
 refine gl_cl (enough_L u1 V exB [1, 1, 1, 3] _ 4 hB1.book hB1.rows hB1.vars hx (by decide)) hS ?_
 rintro a v u2 ⟨rfl, hk2⟩ hS
 rw [ex_en2] at hS
 refine gl_mv (.tuple #[.int .i64 0, .int .i64 0]) hS fun a hS => ?_
 refine gl_mv (.int .i64 0) hS fun a hS => ?_
 refine gl_mv (.int .i64 0) hS fun a hS => ?_
 refine gl_mv (.int .i64 0) hS fun a hS => ?_
 refine gl_mv (.int .i64 0) hS fun a hS => ?_
 refine gl_regionEnd good ?_
 exact k a u2 (hk1.trans (hk2.mono hk1.size)) ⟨hS.1, hS.2.1, hS.2.2.1, hS.2.2.2.1, hS.2.2.2.2.2.2.2.2.2.2⟩
theorem lw_7 {R : Value -> World -> Prop} {b1 ha hc la9 lc9 ca cc : Nat} {a : Act} {u : World} {V : BkV} (hB : LawBk u b1 V exB) (hS : Sl a 302 [(13, .int .i64 0), (12, .int .i64 0), (11, .int .i64 0), (10, .int .i64 2), (9, .int .i64 0), (8, .int .i64 60), (7, .slice (some ⟨ca, 0, none⟩) 4 cc), (6, .int .i64 0), (5, .slice (some ⟨la9, 0, none⟩) 4 lc9), (4, .int .i64 0), (3, .int .i64 80), (2, .slice (some ⟨ha, 0, none⟩) 4 hc), (1, .pointer (some ⟨b1, 0, none⟩)), (0, .bool false)])
  (k : ∀ a' u', Kept u.heap.size u u' -> Sl a' 302 [(15, .int .i64 0), (14, .int .i64 1), (13, .int .i64 0), (12, .int .i64 0), (11, .int .i64 0), (10, .int .i64 2), (9, .int .i64 0), (8, .int .i64 60), (7, .slice (some ⟨ca, 0, none⟩) 4 cc), (6, .int .i64 0), (5, .slice (some ⟨la9, 0, none⟩) 4 lc9), (4, .int .i64 0), (3, .int .i64 80), (2, .slice (some ⟨ha, 0, none⟩) 4 hc), (1, .pointer (some ⟨b1, 0, none⟩)), (0, .bool false)] -> GL tP 15 [.code lw8] R a' u') : GL tP 15 [.code lw7] R a u := by
 simp only [lw7, lw6, lv5, lvBody, Tryd.f15, Option.getD_some]
 refine gl_seq good (gl_region good ?_)
 refine gl_bk hB hS fun a hS => ?_
 refine gl_sl4 2 1 1 2 hS fun a u1 b hk1 hx hS => ?_
 have hB1 := hB.kept hk1
 refine gl_cl (enough_L u1 V exB [2, 1, 1, 2] _ 4 hB1.book hB1.rows hB1.vars hx (by decide)) hS ?_
 rintro a v u2 ⟨rfl, hk2⟩ hS
 rw [ex_en3] at hS
 refine gl_mv (.tuple #[.int .i64 1, .int .i64 0]) hS fun a hS => ?_
 refine gl_mv (.int .i64 1) hS fun a hS => ?_
 refine gl_mv (.int .i64 0) hS fun a hS => ?_
 refine gl_mv (.int .i64 1) hS fun a hS => ?_
 refine gl_mv (.int .i64 0) hS fun a hS => ?_
 refine gl_regionEnd good ?_
 exact k a u2 (hk1.trans (hk2.mono hk1.size)) ⟨hS.1, hS.2.1, hS.2.2.1, hS.2.2.2.1, hS.2.2.2.2.2.2.2.2.2.2⟩
noncomputable def lw15 : Code := match lw8 with
 | .seq _ (.seq _ (.seq _ (.seq _ (.seq _ (.seq _ (.seq _ c)))))) => c
 | _ => .skip
theorem ex_pc {u : World} {V : BkV} (h : BkIn u V exB) : V.pa = none -> V.pc = 0 := fun e => by
 obtain ⟨b, o, sa, sc, h1, _⟩ := h.pairs 0 (exB.pairs[0]'(by decide)) (List.getElem?_eq_getElem (by decide))
 rw [e] at h1
 cases h1
theorem ex_25 (V : BkV) (u : World) (b : Nat) (hs : BkIn u V exB) (hv : Vars u) (hx : SlI u (some ⟨b, 0, none⟩) [1, 1, 1, 3]) : Calls tP 25 #[V.val exB, .slice (some ⟨b, 0, none⟩) 4 4] u fun e u' => e = .returned (.tuple #[.int .i64 0, .int .i64 0, .int .i64 1, .int .i64 0]) /\ Below u.heap.size u u' := by
 have h := c25 V exB [1, 1, 1, 3] (some ⟨b, 0, none⟩) 4 u hs hv hx (by decide)
 rw [ex_lacks] at h
 exact h
theorem ex_27 (V : BkV) (u : World) (b : Nat) (hs : BkIn u V exB) (hv : Vars u) (hx : SlI u (some ⟨b, 0, none⟩) [2, 2, 1, 3]) : Calls tP 27 #[V.val exB, .slice (some ⟨b, 0, none⟩) 4 4] u fun e u' => ∃ fa fc, e = .returned (.tuple #[.slice (some ⟨fa, 0, none⟩) 4 fc, .int .i64 0]) /\ SlI u' (some ⟨fa, 0, none⟩) [0, 1, 0, 0] /\ Below u.heap.size u u' := by
 refine (c27 V exB [2, 2, 1, 3] (some ⟨b, 0, none⟩) 4 u hs hv hx (by decide)).mono ?_
 rintro e u' h
 unfold SpareR at h
 rw [if_pos (ex_rent _ (by decide) (by decide))] at h
 obtain ⟨v, rfl, ho, hb⟩ := h
 have ho2 : u'.ownsRow u.heap.size 3 1 v ([0, 1, 0, 0] : List Int).length (ints [0, 1, 0, 0]) := by rw [<- ex_spare]; exact ho
 obtain ⟨fa, fc, rfl, _, _, hsl, _⟩ := sl_of_own ho2 (by decide)
 exact ⟨fa, fc, rfl, hsl, hb⟩
theorem ex_50 (V : BkV) (u : World) (hs : BkIn u V exB) (hv : Vars u) : Calls tP 50 #[V.val exB] u fun e u' => e = .returned (.tuple #[.int .i64 3, .int .i64 20, .int .i64 0]) /\ Below u.heap.size u u' := by
 have h := c50 V exB u hs hv
 rw [ex_best] at h
 exact h
theorem ex_42 (V : BkV) (u : World) (hs : BkIn u V exB) (hv : Vars u) : Calls tP 42 #[V.val exB, .int .i64 2, .int .i64 1] u fun e u' => e = .returned (.tuple #[.int .i64 5, .int .i64 0]) /\ Below u.heap.size u u' := by
 have h := c42_ok V exB 2 1 u hs hv (ex_pc hs) (good_of_alarm ex_alarm) (by decide) (by decide) (by decide +kernel)
 rw [show moreV exB 2 ((1 : Nat) : Int) = _ from ex_more] at h
 exact h
theorem ex_45a (V : BkV) (u : World) (hs : BkIn u V exB) (hv : Vars u) : Calls tP 45 #[V.val exB, .int .i64 0, .int .i64 75] u fun e u' => e = .returned (.tuple #[.int .i64 1, .int .i64 0]) /\ Below u.heap.size u u' := by
 have h := c45_ok V exB 0 75 u hs hv (ex_pc hs) (by decide) ex_alarm (by decide)
 rw [ex_aff75] at h
 exact h
theorem ex_45b (V : BkV) (u : World) (hs : BkIn u V exB) (hv : Vars u) : Calls tP 45 #[V.val exB, .int .i64 0, .int .i64 59] u fun e u' => e = .returned (.tuple #[.int .i64 0, .int .i64 9]) /\ Below u.heap.size u u' := by
 have h := c45_ok V exB 0 59 u hs hv (ex_pc hs) (by decide) ex_alarm (by decide)
 rw [ex_aff59] at h
 exact h
theorem ex_48 (V : BkV) (u : World) (hs : BkIn u V exB) (hv : Vars u) : Calls tP 48 #[V.val exB, .int .i64 50] u fun e u' => ∃ V' O, e = .returned (.tuple #[V'.val exB, .int .i64 0]) /\ OwnBk u' u.heap.size V' (grownB exB 50) O /\ Below u.heap.size u u' :=
 c48_ok V exB 50 u hs hv (ex_pc hs) ex_alarm (by decide) ex_grown
def LwB (w : World) (b1 ha hc la9 lc9 ca cc : Nat) (it : List Item) (a : Act) (u : World) : Prop := ∃ sp sc gb V' n O, it = [.code lw15] /\ Sl a 302 [(32, .int .i64 0), (31, .pointer (some ⟨gb, 0, none⟩)), (30, .int .i64 9), (29, .int .i64 0), (28, .int .i64 0), (27, .int .i64 1), (26, .int .i64 0), (25, .int .i64 5), (24, .int .i64 0), (23, .int .i64 20), (22, .int .i64 3), (21, .int .i64 0), (20, .slice (some ⟨sp, 0, none⟩) 4 sc), (19, .int .i64 0), (18, .int .i64 1), (17, .int .i64 0), (16, .int .i64 0), (15, .int .i64 0), (14, .int .i64 1), (13, .int .i64 0), (12, .int .i64 0), (11, .int .i64 0), (10, .int .i64 2), (9, .int .i64 0), (8, .int .i64 60), (7, .slice (some ⟨ca, 0, none⟩) 4 cc), (6, .int .i64 0), (5, .slice (some ⟨la9, 0, none⟩) 4 lc9), (4, .int .i64 0), (3, .int .i64 80), (2, .slice (some ⟨ha, 0, none⟩) 4 hc), (1, .pointer (some ⟨b1, 0, none⟩)), (0, .bool false)] /\ SlI u (some ⟨sp, 0, none⟩) [0, 1, 0, 0] /\
 u.cell? ⟨gb, 3, none⟩ = some (.slice V'.pa exB.pairs.length V'.pc) /\ OwnBk u n V' (grownB exB 50) O /\ Below w.heap.size w u
set_option maxHeartbeats 8000000 in
theorem lw_B (b1 ha hc la9 lc9 ca cc : Nat) (a : Act) (w : World) (V : BkV) (hB : LawBk w b1 V exB) (hS : Sl a 302 [(15, .int .i64 0), (14, .int .i64 1), (13, .int .i64 0), (12, .int .i64 0), (11, .int .i64 0), (10, .int .i64 2), (9, .int .i64 0), (8, .int .i64 60), (7, .slice (some ⟨ca, 0, none⟩) 4 cc), (6, .int .i64 0), (5, .slice (some ⟨la9, 0, none⟩) 4 lc9), (4, .int .i64 0), (3, .int .i64 80), (2, .slice (some ⟨ha, 0, none⟩) 4 hc), (1, .pointer (some ⟨b1, 0, none⟩)), (0, .bool false)]) :
  Comes tP [.code lw8] (LwB w b1 ha hc la9 lc9 ca cc) a w := by
 obtain ⟨ta, la, pa, tc, lc, pc⟩ := V
 obtain ⟨t, rfl, hT⟩ := hS.lit
 simp only [SlT] at hT
 obtain ⟨h15, h14, h13, h12, h11, h10, h9, h8, h7, h6, h5, h4, h3, h2, h1, h0, _⟩ := hT
 simp only [up, Nat.reduceAdd, h15, h14, h13, h12, h11, h10, h9, h8, h7, h6, h5, h4, h3, h2, h1, h0]
 clear h15 h14 h13 h12 h11 h10 h9 h8 h7 h6 h5 h4 h3 h2 h1 h0 hS
 have HB : Hid (∀ u, Below w.heap.size w u -> LawBk u b1 ⟨ta, la, pa, tc, lc, pc⟩ exB) := lH fun u hu => hB.below hu
 have hz : b1 < w.heap.size := wBk _ _ hB.c0
 have e0 := hB.c0
 have e1 := hB.c1
 have e2 := hB.c2
 have e3 := hB.c3
 have HK0 : Hid (Below w.heap.size w w) := lH (bR _ _)
 clear hB
 simp only [lw8, lw7, lw6, lv5, lvBody, Tryd.f15, Option.getD_some]
 refine comes_push (comes_code ?_)
 go_wp2_with fail
 generalize hWe : w.alloc (.cells #[.int .i64 1, .int .i64 1, .int .i64 1, .int .i64 3] 3) = W1
 have hbe : Below w.heap.size w W1 := by subst hWe; exact (bR _ _).alloc (nR _) _
 have hsl : SlI W1 (some ⟨w.heap.size, 0, none⟩) [1, 1, 1, 3] := by subst hWe; exact sl4 (by go_simp) (by go_simp) (by go_simp) (by go_simp)
 have HL1 := lH (HK0.out.trans (hbe.mono HK0.out.size))
 have hbk := HB.out W1 HL1.out
 refine (ex_25 ⟨ta, la, pa, tc, lc, pc⟩ W1 w.heap.size hbk.book hbk.vars hsl).mono ?_
 rintro e w1 ⟨rfl, hb4⟩
 have HK1 := lH (HL1.out.trans (hb4.mono HL1.out.size))
 clear hWe hbe hsl hbk hb4 hz e0 e1 e2 e3
 have hb' := HB.out w1 HK1.out
 have e0 := hb'.c0
 have e1 := hb'.c1
 have e2 := hb'.c2
 have e3 := hb'.c3
 have hz : b1 < w1.heap.size := wBk _ _ e0
 clear hb'
 go_wp2
 refine comes_push (comes_code ?_)
 go_wp2_with fail
 generalize hWe : w1.alloc (.cells #[.int .i64 2, .int .i64 2, .int .i64 1, .int .i64 3] 3) = W2
 have hbe : Below w1.heap.size w1 W2 := by subst hWe; exact (bR _ _).alloc (nR _) _
 have hsl : SlI W2 (some ⟨w1.heap.size, 0, none⟩) [2, 2, 1, 3] := by subst hWe; exact sl4 (by go_simp) (by go_simp) (by go_simp) (by go_simp)
 have HL2 := lH (HK1.out.trans (hbe.mono HK1.out.size))
 have hbk := HB.out W2 HL2.out
 refine (ex_27 ⟨ta, la, pa, tc, lc, pc⟩ W2 w1.heap.size hbk.book hbk.vars hsl).mono ?_
 rintro e w2 ⟨sp, sc, rfl, hsp, hb4⟩
 have HK2 := lH (HL2.out.trans (hb4.mono HL2.out.size))
 have HS2 := lH hsp
 clear hsp
 clear hWe hbe hsl hbk hb4 hz e0 e1 e2 e3
 have hb' := HB.out w2 HK2.out
 have e0 := hb'.c0
 have e1 := hb'.c1
 have e2 := hb'.c2
 have e3 := hb'.c3
 have hz : b1 < w2.heap.size := wBk _ _ e0
 clear hb'
 go_wp2
 refine comes_push (comes_code ?_)
 go_wp2_with fail
 have hbk := HB.out w2 HK2.out
 refine (ex_50 ⟨ta, la, pa, tc, lc, pc⟩ w2 hbk.book hbk.vars).mono ?_
 rintro e w3 ⟨rfl, hb4⟩
 have HK3 := lH (HK2.out.trans (hb4.mono HK2.out.size))
 have HS3 := lH (HS2.out.below hb4 (nR _))
 clear hbk hb4 hz e0 e1 e2 e3
 have hb' := HB.out w3 HK3.out
 have e0 := hb'.c0
 have e1 := hb'.c1
 have e2 := hb'.c2
 have e3 := hb'.c3
 have hz : b1 < w3.heap.size := wBk _ _ e0
 clear hb'
 go_wp2
 refine comes_push (comes_code ?_)
 go_wp2_with fail
 have hbk := HB.out w3 HK3.out
 refine (ex_42 ⟨ta, la, pa, tc, lc, pc⟩ w3 hbk.book hbk.vars).mono ?_
 rintro e w4 ⟨rfl, hb4⟩
 have HK4 := lH (HK3.out.trans (hb4.mono HK3.out.size))
 have HS4 := lH (HS3.out.below hb4 (nR _))
 clear hbk hb4 hz e0 e1 e2 e3
 have hb' := HB.out w4 HK4.out
 have e0 := hb'.c0
 have e1 := hb'.c1
 have e2 := hb'.c2
 have e3 := hb'.c3
 have hz : b1 < w4.heap.size := wBk _ _ e0
 clear hb'
 go_wp2
 refine comes_push (comes_code ?_)
 go_wp2_with fail
 have hbk := HB.out w4 HK4.out
 refine (ex_45a ⟨ta, la, pa, tc, lc, pc⟩ w4 hbk.book hbk.vars).mono ?_
 rintro e w5 ⟨rfl, hb4⟩
 have HK5 := lH (HK4.out.trans (hb4.mono HK4.out.size))
 have HS5 := lH (HS4.out.below hb4 (nR _))
 clear hbk hb4 hz e0 e1 e2 e3
 have hb' := HB.out w5 HK5.out
 have e0 := hb'.c0
 have e1 := hb'.c1
 have e2 := hb'.c2
 have e3 := hb'.c3
 have hz : b1 < w5.heap.size := wBk _ _ e0
 clear hb'
 go_wp2
 refine comes_push (comes_code ?_)
 go_wp2_with fail
 have hbk := HB.out w5 HK5.out
 refine (ex_45b ⟨ta, la, pa, tc, lc, pc⟩ w5 hbk.book hbk.vars).mono ?_
 rintro e w6 ⟨rfl, hb4⟩
 have HK6 := lH (HK5.out.trans (hb4.mono HK5.out.size))
 have HS6 := lH (HS5.out.below hb4 (nR _))
 clear hbk hb4 hz e0 e1 e2 e3
 have hb' := HB.out w6 HK6.out
 have e0 := hb'.c0
 have e1 := hb'.c1
 have e2 := hb'.c2
 have e3 := hb'.c3
 have hz : b1 < w6.heap.size := wBk _ _ e0
 clear hb'
 go_wp2
 refine comes_push (comes_code ?_)
 go_wp2_with fail
 have hbk := HB.out w6 HK6.out
 refine (ex_48 ⟨ta, la, pa, tc, lc, pc⟩ w6 hbk.book hbk.vars).mono ?_
 rintro e w7 ⟨V', O, rfl, hO, hb4⟩
 have HK7 := lH (HK6.out.trans (hb4.mono HK6.out.size))
 have HS7 := lH (HS6.out.below hb4 (nR _))
 have HO := lH hO
 clear hO
 obtain ⟨va, vl, vp, vtc, vlc, vpc⟩ := V'
 clear hbk hb4 hz e0 e1 e2 e3
 have hb' := HB.out w7 HK7.out
 have e0 := hb'.c0
 have e1 := hb'.c1
 have e2 := hb'.c2
 have e3 := hb'.c3
 have hz : b1 < w7.heap.size := wBk _ _ e0
 clear hb'
 go_wp2
 have hbz : Below w7.heap.size w7 (w7.alloc (.cells #[.int .i64 exB.hours, .slice va exB.towns.length vtc, .slice vl exB.links.length vlc, .slice vp exB.pairs.length vpc] 26)) := (bR _ _).alloc (nR _) _
 exact comes_here ⟨sp, sc, w7.heap.size, ⟨va, vl, vp, vtc, vlc, vpc⟩, _, O, rfl, ⟨rfl, rfl, rfl, rfl, rfl, rfl, rfl, rfl, rfl, rfl, rfl, rfl, rfl, rfl, rfl, rfl, rfl, rfl, rfl, rfl, rfl, rfl, rfl, rfl, rfl, rfl, rfl, rfl, rfl, rfl, rfl, rfl, rfl, rfl, rfl, trivial⟩, HS7.out.below hbz (nR _), by go_simp, HO.out.below hbz, HK7.out.trans (hbz.mono HK7.out.size)⟩
noncomputable def lw16 : Code := match lw15 with
 | .seq _ c => c
 | _ => .skip
theorem lw_15 {R : Value -> World -> Prop} {b1 ha hc la9 lc9 ca cc sp sc gb : Nat} {a : Act} {u : World} {V : BkV} (hB : LawBk u b1 V exB) (hS : Sl a 302 [(32, .int .i64 0), (31, .pointer (some ⟨gb, 0, none⟩)), (30, .int .i64 9), (29, .int .i64 0), (28, .int .i64 0), (27, .int .i64 1), (26, .int .i64 0), (25, .int .i64 5), (24, .int .i64 0), (23, .int .i64 20), (22, .int .i64 3), (21, .int .i64 0), (20, .slice (some ⟨sp, 0, none⟩) 4 sc), (19, .int .i64 0), (18, .int .i64 1), (17, .int .i64 0), (16, .int .i64 0), (15, .int .i64 0), (14, .int .i64 1), (13, .int .i64 0), (12, .int .i64 0), (11, .int .i64 0), (10, .int .i64 2), (9, .int .i64 0), (8, .int .i64 60), (7, .slice (some ⟨ca, 0, none⟩) 4 cc), (6, .int .i64 0), (5, .slice (some ⟨la9, 0, none⟩) 4 lc9), (4, .int .i64 0), (3, .int .i64 80), (2, .slice (some ⟨ha, 0, none⟩) 4 hc), (1, .pointer (some ⟨b1, 0, none⟩)), (0, .bool false)])
  (k : ∀ a' u', Kept u.heap.size u u' -> Sl a' 302 [(35, .int .i64 0), (34, .bool true), (33, .int .i64 1), (32, .int .i64 0), (31, .pointer (some ⟨gb, 0, none⟩)), (30, .int .i64 9), (29, .int .i64 0), (28, .int .i64 0), (27, .int .i64 1), (26, .int .i64 0), (25, .int .i64 5), (24, .int .i64 0), (23, .int .i64 20), (22, .int .i64 3), (21, .int .i64 0), (20, .slice (some ⟨sp, 0, none⟩) 4 sc), (19, .int .i64 0), (18, .int .i64 1), (17, .int .i64 0), (16, .int .i64 0), (15, .int .i64 0), (14, .int .i64 1), (13, .int .i64 0), (12, .int .i64 0), (11, .int .i64 0), (10, .int .i64 2), (9, .int .i64 0), (8, .int .i64 60), (7, .slice (some ⟨ca, 0, none⟩) 4 cc), (6, .int .i64 0), (5, .slice (some ⟨la9, 0, none⟩) 4 lc9), (4, .int .i64 0), (3, .int .i64 80), (2, .slice (some ⟨ha, 0, none⟩) 4 hc), (1, .pointer (some ⟨b1, 0, none⟩)), (0, .bool false)] -> GL tP 15 [.code lw16] R a' u') : GL tP 15 [.code lw15] R a u := by
 have hpc := ex_pc hB.book
 simp only [lw15, lw8, lw7, lw6, lv5, lvBody, Tryd.f15, Option.getD_some]
 refine gl_seq good (gl_region good ?_)
 refine gl_bk hB hS fun a hS => ?_
 refine gl_sl4 2 1 1 2 hS fun a u1 b hk1 hx hS => ?_
 have hB1 := hB.kept hk1
 refine gl_cl (year_L u1 V exB [2, 1, 1, 2] _ 4 10 hB1.book hB1.rows hpc hB1.vars hx (by decide) (ex_rent _ (by decide) (by decide)) (by decide)) hS ?_
 rintro a v u2 ⟨hv, hk2⟩ hS
 rw [ex_year] at hv
 have hv2 : v = .tuple #[.int .i64 1, .bool true, .int .i64 0] := hv
 subst hv2
 refine gl_mv (.tuple #[.int .i64 1, .bool true, .int .i64 0]) hS fun a hS => ?_
 refine gl_mv (.int .i64 1) hS fun a hS => ?_
 refine gl_mv (.bool true) hS fun a hS => ?_
 refine gl_mv (.int .i64 0) hS fun a hS => ?_
 refine gl_mv (.int .i64 1) hS fun a hS => ?_
 refine gl_mv (.bool true) hS fun a hS => ?_
 refine gl_mv (.int .i64 0) hS fun a hS => ?_
 refine gl_regionEnd good ?_
 exact k a u2 (hk1.trans (hk2.mono hk1.size)) ⟨hS.1, hS.2.1, hS.2.2.1, hS.2.2.2.1, hS.2.2.2.2.1, hS.2.2.2.2.2.2.2.2.2.2.2.2⟩
end Go.Proofs.YtaikibfkggglgaaDoor
