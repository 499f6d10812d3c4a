/- A part of the proof of RentMoreTrunks; no conditions of its own. -/
import Derived.Test.YtaikibfkggglgaaDoorX25
set_option maxRecDepth 100000
open Go renaming undef → ud
open Nat renaming le_refl → nR
open Go.Lib renaming hid → lH
open Go.RowKit.Below renaming refl → bR
open Go.Proofs.Tryd renaming prog → tP
open List renaming getElem?_eq_getElem → lG
open Go.World renaming block_lt_of_cell? → wBk
namespace Go.Proofs.YtaikibfkggglgaaDoor
open Go.RowKit Go.Rent Go.Tp Go.Conc
theorem field89 (a b c d : Value) (u : World) : (Instr.field 89 (.agg #[a, b, c, d]) 0).run tP u = .ok (.agg #[a, b, c, d]) u := by
 have a3 := Tryd.isAgg26
 have z3 := Tryd.sizeOf26
 unfold Instr.field
 simp only [Sem.run_bind, run_underlying Tryd.underlying89, Result.andThen_ok]
 go_simp
 simp [asAgg]
theorem grownB_small {B : Bk} (hG : Good B) (p : Int) : Small (grownB B p) := by
 have h := small_of hG
 refine ⟨h.nt, h.nl, by show (List.map _ _).length <= _; rw [List.length_map]; exact h.np, h.st, fun i q hq => ?_⟩
 unfold grownB at hq
 simp only [List.getElem?_map, Option.map_eq_some_iff] at hq
 obtain ⟨r, hr, rfl⟩ := hq
 show (List.map _ _).length <= _
 rw [List.length_map]
 exact h.cl i r hr
theorem grownB_val (V : BkV) (B : Bk) (p : Int) : V.val (grownB B p) = V.val B := by
 simp only [BkV.val, grownB, List.length_map]
set_option maxHeartbeats 4000000 in
theorem c48_ok (V : BkV) (B : Bk) (p : Int) (w : World) (hs : BkIn w V B) (hv : Vars w) (hpc : V.pa = none -> V.pc = 0) (h0 : B.alarm = 0) (hp : btw p 0 100 = true) (h1 : (grownB B p).alarm = 0) :
  Calls tP 48 #[V.val B, .int .i64 p] w fun e w' => ∃ V' O, e = .returned (.tuple #[V'.val B, .int .i64 0]) /\ OwnBk w' w.heap.size V' (grownB B p) O /\ Below w.heap.size w w' := by
 obtain ⟨ta, la, pa, tc, lc, pc⟩ := V
 have hb0 : Below w.heap.size w ((w.alloc (.cells #[.int .i64 B.hours, .slice ta B.towns.length tc, .slice la B.links.length lc, .slice pa B.pairs.length pc] 26)).alloc (.cells #[.int .i64 0, .slice none 0 0, .slice none 0 0, .slice none 0 0] 26)) := ((bR _ _).alloc (nR _) _).alloc (by simp) _
 have HC := lH (c78 ⟨ta, la, pa, tc, lc, pc⟩ B true _ (hs.below hb0 (nR _)) (hv.v2.below hb0 (nR _)))
 rw [openA_true, h0, resB_ok] at HC
 have HB0 := lH hb0
 have Hs := lH hs
 have Hv := lH hv
 have Hpc := lH hpc
 have Hp := lH hp
 have HG := lH (good_of_alarm h0)
 have H1 := lH h1
 have hp2 := btw_t hp
 have hf89 := field89
 clear hs hv hb0 hpc hp h0 h1
 go_enter Tryd.func48, Tryd.ntmps48
 go_wp2_with fail
 generalize hWd : (w.alloc (.cells #[.int .i64 B.hours, .slice ta B.towns.length tc, .slice la B.links.length lc, .slice pa B.pairs.length pc] 26)).alloc (.cells #[.int .i64 0, .slice none 0 0, .slice none 0 0, .slice none 0 0] 26) = W at *
 have hWz : W.heap.size = w.heap.size + 1 + 1 := by subst hWd; simp
 have HR1 : Hid (Zero4 W (w.heap.size + 1)) := lH (by subst hWd; exact ⟨⟨by go_simp, by go_simp, by go_simp, by go_simp⟩, by go_simp, by go_simp, by go_simp, by go_simp⟩)
 clear hWd
 refine HC.out.mono ?_
 rintro e w1 ⟨rfl, hb1⟩
 have HW1 := lH hb1
 clear hb1 HC
 go_wp2_with fail
 refine (c69 p 0 100 _).mono ?_
 rintro e w0 ⟨rfl, rfl⟩
 rw [Hp.out]
 have hbA : Below w1.heap.size w1 (w1.alloc (.cells #[.int .i64 B.hours, .slice ta B.towns.length tc, .slice la B.links.length lc, .slice pa B.pairs.length pc] 89)) := (bR _ _).alloc (nR _) _
 have HW2 := lH (HW1.out.trans (hbA.mono HW1.out.size))
 have hb2 := HB0.out.trans (HW2.out.mono HB0.out.size)
 have HC2 := lH (c86 ⟨ta, la, pa, tc, lc, pc⟩ B HG.out p hp2 _ (Hs.out.below hb2 (nR _)) Hpc.out)
 clear hb2 hbA
 go_wp2_with fail
 refine HC2.out.mono ?_
 rintro e w2 ⟨⟨va, vl, vp, vtc, vlc, vpc⟩, O, rfl, hO, hb3⟩
 have HW3 := lH (HW2.out.trans (hb3.mono HW2.out.size))
 have hbB : Below w2.heap.size w2 (w2.alloc (.cells #[.int .i64 B.hours, .slice va B.towns.length vtc, .slice vl B.links.length vlc, .slice vp B.pairs.length vpc] 26)) := (bR _ _).alloc (nR _) _
 have HO := lH (hO.below hbB)
 have HW4 := lH (HW3.out.trans (hbB.mono HW3.out.size))
 have h19 := c19 ⟨va, vl, vp, vtc, vlc, vpc⟩ (grownB B p) _ (HO.out.inn (grownB_small HG.out p)) (Hv.out.below (HB0.out.trans (HW4.out.mono HB0.out.size))).v2
 rw [grownB_val, H1.out] at h19
 have H19 := lH h19
 clear hO hb3 hbB h19 HC2
 go_wp2_with fail
 refine H19.out.mono ?_
 rintro e w4 ⟨rfl, hb5⟩
 have HO5 := lH (HO.out.below hb5)
 have HW5 := lH (HW4.out.trans (hb5.mono HW4.out.size))
 have q0 := cell_below hb5 (show (w2.alloc (.cells #[.int .i64 B.hours, .slice va B.towns.length vtc, .slice vl B.links.length vlc, .slice vp B.pairs.length vpc] 26)).cell? ⟨w2.heap.size, 0, none⟩ = some (.int .i64 B.hours) from by go_simp) (nR _)
 have q1 := cell_below hb5 (show (w2.alloc (.cells #[.int .i64 B.hours, .slice va B.towns.length vtc, .slice vl B.links.length vlc, .slice vp B.pairs.length vpc] 26)).cell? ⟨w2.heap.size, 1, none⟩ = some (.slice va B.towns.length vtc) from by go_simp) (nR _)
 have q2 := cell_below hb5 (show (w2.alloc (.cells #[.int .i64 B.hours, .slice va B.towns.length vtc, .slice vl B.links.length vlc, .slice vp B.pairs.length vpc] 26)).cell? ⟨w2.heap.size, 2, none⟩ = some (.slice vl B.links.length vlc) from by go_simp) (nR _)
 have q3 := cell_below hb5 (show (w2.alloc (.cells #[.int .i64 B.hours, .slice va B.towns.length vtc, .slice vl B.links.length vlc, .slice vp B.pairs.length vpc] 26)).cell? ⟨w2.heap.size, 3, none⟩ = some (.slice vp B.pairs.length vpc) from by go_simp) (nR _)
 have hb' := bcell HW5.out
 obtain ⟨⟨c0, c1, c2, c3⟩, f0, f1, f2, f3⟩ := HR1.out
 have r0 := (hb'.1 (w.heap.size + 1) 0 (by omega)).trans c0
 have g0 := (hb'.2 (w.heap.size + 1) 0 (by omega)).trans f0
 have r1 := (hb'.1 (w.heap.size + 1) 1 (by omega)).trans c1
 have g1 := (hb'.2 (w.heap.size + 1) 1 (by omega)).trans f1
 have r2 := (hb'.1 (w.heap.size + 1) 2 (by omega)).trans c2
 have g2 := (hb'.2 (w.heap.size + 1) 2 (by omega)).trans f2
 have r3 := (hb'.1 (w.heap.size + 1) 3 (by omega)).trans c3
 have g3 := (hb'.2 (w.heap.size + 1) 3 (by omega)).trans f3
 have hlo : w.heap.size + 1 < (w1.alloc (.cells #[.int .i64 B.hours, .slice ta B.towns.length tc, .slice la B.links.length lc, .slice pa B.pairs.length pc] 89)).heap.size := by have := HW1.out.size; simp; omega
 clear hb5 H19 hb' c0 c1 c2 c3 f0 f1 f2 f3
 go_wp2
 have n3 : w.heap.size <= w.heap.size + 1 := by omega
 have hlow : ∀ u m n, OwnBk u m ⟨va, vl, vp, vtc, vlc, vpc⟩ (grownB B p) O -> n <= m -> OwnBk u n ⟨va, vl, vp, vtc, vlc, vpc⟩ (grownB B p) O := fun u m n h hn => ⟨h.ta, h.la, h.pa, h.pc, h.rp, h.tc, h.towns, h.links, h.steps, h.pairs, h.calls, fun i q hq => ⟨⟨(h.free i q hq).1.1, Nat.le_trans hn (h.free i q hq).1.2⟩, (h.free i q hq).2⟩, h.dis, ⟨Nat.le_trans hn h.lo.1, Nat.le_trans hn h.lo.2.1, Nat.le_trans hn h.lo.2.2.1, fun i L hL => Nat.le_trans hn (h.lo.2.2.2 i L hL)⟩⟩
 refine bodyPost_ret (v := .tuple #[.agg #[.int .i64 B.hours, .slice va B.towns.length vtc, .slice vl B.links.length vlc, .slice vp B.pairs.length vpc], .int .i64 0]) (by simp [results, Tryd.results48, go_sem, r0, r1, r2, r3]) rfl
  ⟨⟨va, vl, vp, vtc, vlc, vpc⟩, O, rfl, hlow _ _ _ ((((HO5.out.far _ hlo).far _ hlo).far _ hlo).far _ hlo) (by omega), ?_⟩
 exact ((((HB0.out.trans (HW5.out.mono HB0.out.size)).setCell (p := ⟨w.heap.size + 1, 0, none⟩) n3 _).setCell (p := ⟨w.heap.size + 1, 1, none⟩) n3 _).setCell (p := ⟨w.heap.size + 1, 2, none⟩) n3 _).setCell (p := ⟨w.heap.size + 1, 3, none⟩) n3 _
def yearD (T : Nat -> Int) (p : Int) : Nat -> Nat -> Bk -> Option Nat
 | 0, _, _ => none
 | f + 1, k, B => if B.alarm = 0 /\ carryB B T = true then yearD T p f (k + 1) (grownB B p) else some k
def yearOut : Option Nat -> Value
 | some k => .tuple #[.int .i64 (k : Int), .bool true, .int .i64 0]
 | none => .tuple #[.int .i64 0, .bool false, .int .i64 0]
noncomputable def yrBody : Code := Tryd.f47.body.getD .skip
noncomputable def yrL : Code := match yrBody with
 | .seq _ (.seq _ (.seq _ (.seq (.seq _ (.block _ (.loop l))) _))) => l
 | _ => .skip
noncomputable def yrEnd : Code := match yrBody with
 | .seq _ (.seq _ (.seq _ (.seq _ c))) => c
 | _ => .skip
noncomputable def yrIn : Code := match yrL with
 | .seq _ (.seq _ (.seq (.block _ c) _)) => c
 | _ => .skip
noncomputable def yrInc : Code := match yrL with
 | .seq _ (.seq _ (.seq _ c)) => c
 | _ => .skip
noncomputable def yrOps : Array Oper := match yrIn with
 | .seq _ (.seq (.seq (.region _ ops _) _) _) => ops
 | _ => #[]
noncomputable def yrIf : Code := match yrIn with
 | .seq _ (.seq (.seq _ c) _) => c
 | _ => .skip
noncomputable def yrGrow : Code := match yrIn with
 | .seq _ (.seq _ c) => c
 | _ => .skip
def YA (t0 t1 t2 t3 : Value) (b9 : Nat) (t10 t11 t12 t13 t14 t15 t16 t17 t18 t19 t20 t21 t22 t23 t24 t25 t26 t27 t28 t29 t30 t31 t32 t33 t34 t35 t36 t37 t38 t39 t40 t41 t42 : Value) : Act := ⟨#[t0, t1, t2, t3, ud, ud, .int .i64 0, .bool false, .int .i64 0, .pointer (some ⟨b9, 0, none⟩), t10, t11, t12, t13, t14, t15, t16, t17, t18, t19, t20, t21, t22, t23, t24, t25, t26, t27, t28, t29, t30, t31, t32, t33, t34, t35, t36, t37, t38, t39, t40, t41, t42], []⟩
def Box9 (w : World) (b9 : Nat) (V : BkV) (B : Bk) : Prop := (w.cell? ⟨b9, 0, none⟩ = some (.int .i64 B.hours) /\ w.cell? ⟨b9, 1, none⟩ = some (.slice V.ta B.towns.length V.tc) /\ w.cell? ⟨b9, 2, none⟩ = some (.slice V.la B.links.length V.lc) /\ w.cell? ⟨b9, 3, none⟩ = some (.slice V.pa B.pairs.length V.pc)) /\
 w.frozen? ⟨b9, 0, none⟩ = false /\ w.frozen? ⟨b9, 1, none⟩ = false /\ w.frozen? ⟨b9, 2, none⟩ = false /\ w.frozen? ⟨b9, 3, none⟩ = false
def YrAt (w : World) (V : BkV) (B : Bk) (xv pv : Value) (it : List Item) (a : Act) (w' : World) : Prop :=
 ∃ t3 b9 t10 t11 t12 t13 t14 t15 t16 t17 t18 t19 t20 t21 t22 t23 t24, it = [.code (.block 1 (.loop yrL)), .code yrEnd] /\ a = YA (V.val B) xv pv t3 b9 t10 t11 t12 t13 t14 t15 t16 t17 t18 t19 t20 t21 t22 t23 t24 (.int .i64 0) ud ud ud ud ud ud ud ud ud ud ud ud ud ud ud ud ud /\ w.heap.size <= b9 /\ Box9 w' b9 V B /\ Below w.heap.size w w'
set_option maxHeartbeats 2000000 in
theorem yr_comes (V : BkV) (B : Bk) (xs : List Int) (xa : Option Addr) (xc : Nat) (p : Int) (hp : btw p 0 100 = true) (w : World) (hs : BkIn w V B) (hv : Var2 w) (hx : SlI w xa xs) (hxl : xs.length <= 1000000) (hok : rentedA B xs true = 0) :
  Comes tP [.code yrBody] (YrAt w V B (.slice xa xs.length xc) (.int .i64 p)) ⟨#[V.val B, .slice xa xs.length xc, .int .i64 p, ud, ud, ud, ud, ud, ud, ud, ud, ud, ud, ud, ud, ud, ud, ud, ud, ud, ud, ud, ud, ud, ud, ud, ud, ud, ud, ud, ud, ud, ud, ud, ud, ud, ud, ud, ud, ud, ud, ud, ud], []⟩ w := by
 obtain ⟨ta, la, pa, tc, lc, pc⟩ := V
 have hb0 : Below w.heap.size w (w.alloc (.cells #[.int .i64 B.hours, .slice ta B.towns.length tc, .slice la B.links.length lc, .slice pa B.pairs.length pc] 26)) := (bR _ _).alloc (nR _) _
 have HC := lH (c55 ⟨ta, la, pa, tc, lc, pc⟩ B xs xa xc true _ (hs.below hb0 (nR _)) (hv.below hb0 (nR _)) (hx.below hb0 (nR _)) hxl)
 have HB0 := lH hb0
 have Hp := lH hp
 clear hs hv hx hb0 hp
 simp only [yrBody, Tryd.f47, Option.getD_some]
 refine comes_push (comes_code ?_)
 go_wp2
 refine comes_push (comes_code ?_)
 go_wp2_with fail
 refine HC.out.mono ?_
 rintro e w1 ⟨rfl, hb1⟩
 rw [hok, resB_ok]
 have Hbw := lH (HB0.out.trans (hb1.mono (by simp)))
 clear hb1 HC
 go_wp2
 refine comes_push (comes_code ?_)
 go_wp2_with fail
 refine (c69 p 0 100 _).mono ?_
 rintro e w0 ⟨rfl, rfl⟩
 rw [Hp.out]
 go_wp2
 refine comes_push (comes_push (comes_code ?_))
 go_wp2
 refine comes_here ⟨_, w1.heap.size, _, _, _, _, _, _, _, _, _, _, _, _, _, _, _, rfl, rfl, Hbw.out.size, ⟨⟨by go_simp, by go_simp, by go_simp, by go_simp⟩, by go_simp, by go_simp, by go_simp, by go_simp⟩, Hbw.out.trans ((bR _ _).alloc Hbw.out.size _)⟩
theorem gl_pt {f : FuncId} {it : List Item} {R : Value -> World -> Prop} {a : Act} {w : World} {τ : Nat -> Question -> Nat} {d : Nat} (h : GL tP f it R a w) : GL tP f it R a (w.tp τ d noJ) := gl_tp (τ := w.tape) (d := w.drawn) (by rw [tp_tp, tp_self]; exact h)
noncomputable def yrR7 : Code := match yrL with
 | .seq c _ => c
 | _ => .skip
noncomputable def yrCond : Code := match yrL with
 | .seq _ (.seq c _) => c
 | _ => .skip
noncomputable def yrR8 : Code := match yrIn with
 | .seq c _ => c
 | _ => .skip
theorem yrL_eq : yrL = .seq yrR7 (.seq yrCond (.seq (.block 2 yrIn) yrInc)) := rfl
theorem yrIn_eq : yrIn = .seq yrR8 (.seq (.seq (.region 9 yrOps false) yrIf) yrGrow) := rfl
theorem gl_eq {f : FuncId} {it : List Item} {R : Value -> World -> Prop} {a : Act} {w : World} {x y : Code} (e : x = y) (h : GL tP f (.code y :: it) R a w) : GL tP f (.code x :: it) R a w := e ▸ h
theorem yr_head (t0 t3 : Value) (tb tofs n xc b9 : Nat) (p : Int) (k : Nat) (hk : k < 7) (t10 t11 t12 t13 t14 t15 t16 t17 t18 t19 t20 t21 t22 t23 t24 t26 t27 t28 t29 t30 t31 t32 t33 t34 t35 t36 t37 t38 t39 t40 t41 t42 : Value) (w : World) :
  Comes tP [.code yrR7, .code (.seq yrCond (.seq (.block 2 yrIn) yrInc))] (fun it a u => it = [.code (.block 2 yrIn), .code yrInc] /\ a = YA t0 (.slice (some ⟨tb, tofs, none⟩) n xc) (.int .i64 p) t3 b9 t10 t11 t12 t13 t14 t15 t16 t17 t18 t19 t20 t21 t22 t23 t24 (.int .i64 (k : Int)) (.bool true) t27 t28 t29 t30 t31 t32 t33 t34 t35 t36 t37 t38 t39 t40 t41 t42 /\ u = w) (YA t0 (.slice (some ⟨tb, tofs, none⟩) n xc) (.int .i64 p) t3 b9 t10 t11 t12 t13 t14 t15 t16 t17 t18 t19 t20 t21 t22 t23 t24 (.int .i64 (k : Int)) t26 t27 t28 t29 t30 t31 t32 t33 t34 t35 t36 t37 t38 t39 t40 t41 t42) w := by
 have hk' : (k : Int) < 7 := by omega
 simp only [YA, yrR7, yrL, yrBody, Tryd.f47, Option.getD_some]
 refine comes_code ?_
 go_wp2
 refine comes_push (comes_code ?_)
 simp only [yrCond, yrL, yrBody, Tryd.f47, Option.getD_some]
 go_wp2
 exact comes_push (comes_here ⟨rfl, rfl, rfl⟩)
theorem yr_in (t0 t3 : Value) (tb tofs n xc b9 : Nat) (p : Int) (k : Nat) (t10 t11 t12 t13 t14 t15 t16 t17 t18 t19 t20 t21 t22 t23 t24 t26 t27 t28 t29 t30 t31 t32 t33 t34 t35 t36 t37 t38 t39 t40 t41 t42 : Value) (w : World) (V : BkV) (B : Bk) (hB : Box9 w b9 V B) :
  Comes tP [.code yrIn] (fun it a u => it = [.inRegion yrOps [2, 3, 4, 5, 6, 7, 8, 9], .code yrIf, .code yrGrow] /\ a = YA t0 (.slice (some ⟨tb, tofs, none⟩) n xc) (.int .i64 p) t3 b9 (.int .i64 (k : Int)) t11 t12 t13 t14 t15 t16 t17 t18 t19 t20 t21 t22 t23 t24 (.int .i64 (k : Int)) t26 (.int .i64 (k : Int)) (.pointer (some ⟨b9, 0, none⟩)) (V.val B) t30 t31 t32 t33 t34 t35 t36 t37 t38 t39 t40 t41 t42 /\ u = w) (YA t0 (.slice (some ⟨tb, tofs, none⟩) n xc) (.int .i64 p) t3 b9 t10 t11 t12 t13 t14 t15 t16 t17 t18 t19 t20 t21 t22 t23 t24 (.int .i64 (k : Int)) t26 t27 t28 t29 t30 t31 t32 t33 t34 t35 t36 t37 t38 t39 t40 t41 t42) w := by
 obtain ⟨ta, la, pa, tc, lc, pc⟩ := V
 obtain ⟨⟨c0, c1, c2, c3⟩, _, _, _, _⟩ := hB
 have hz := wBk _ _ c0
 rw [yrIn_eq]
 refine comes_push (comes_code ?_)
 simp only [YA, yrR8, yrIn, yrL, yrBody, Tryd.f47, Option.getD_some]
 go_wp2
 refine comes_push (comes_push (comes_reg ?_))
 simp only [yrOps, yrIn, yrL, yrBody, Tryd.f47, Option.getD_some]
 refine comes_val rfl rfl (w1 := w) (v := .pointer (some ⟨b9, 0, none⟩)) (by go_simp) ?_
 refine comes_val rfl rfl (w1 := w) (v := .agg #[.int .i64 B.hours, .slice ta B.towns.length tc, .slice la B.links.length lc, .slice pa B.pairs.length pc]) (by go_simp) ?_
 exact comes_here ⟨rfl, rfl, rfl⟩
theorem rowAt_cell {w : World} {b o : Nat} {v : Value} (h : w.cell? ⟨b, o, none⟩ = some v) : RowAt w (some ⟨b, 0, none⟩) := fun a e => by
 cases e
 have hb := wBk _ _ h
 unfold World.cell? at h
 split at h
 all_goals first
  | (rename_i c t z hh; exact ⟨_, _, _, hh⟩)
  | (rename_i hh; exact ⟨_, _, _, hh⟩)
  | cases h
theorem own_rows {w : World} {n : Nat} {V : BkV} {B : Bk} {O : OwnV} (h : OwnBk w n V B O) (ht : 0 < B.towns.length) (hl : 0 < B.links.length) : BkRows w V := by
 refine ⟨?_, ?_, h.rp⟩
 ·rw [h.ta]
  exact rowAt_cell (h.towns 0 B.towns[0] (lG ht))
 ·rw [h.la]
  obtain ⟨h1, _⟩ := h.links 0 B.links[0] (lG hl)
  exact rowAt_cell h1
theorem yr_stop (t0 t3 : Value) (tb tofs n xc b9 : Nat) (p : Int) (k : Nat) (t11 t12 t13 t14 t15 t16 t17 t18 t19 t20 t21 t22 t23 t24 t26 t27 t28 t29 t30 t31 t32 t33 t34 t35 t36 t38 t39 t40 t41 t42 : Value) (w : World) (Q : Ending -> World -> Prop) (hQ : Q (.returned (.tuple #[.int .i64 (k : Int), .bool true, .int .i64 0])) w) :
  yrIf.wp tP (Exit.then (fun _ _ => False) (bodyPost tP Tryd.f47 Q)) (YA t0 (.slice (some ⟨tb, tofs, none⟩) n xc) (.int .i64 p) t3 b9 (.int .i64 (k : Int)) t11 t12 t13 t14 t15 t16 t17 t18 t19 t20 t21 t22 t23 t24 (.int .i64 (k : Int)) t26 t27 t28 t29 t30 t31 t32 t33 t34 t35 t36 (.bool true) t38 t39 t40 t41 t42) w := by
 have HQ := lH hQ
 clear hQ
 simp only [YA, yrIf, yrIn, yrL, yrBody, Tryd.f47, Option.getD_some]
 go_wp2
 exact bodyPost_ret (v := .tuple #[.int .i64 (k : Int), .bool true, .int .i64 0]) (by simp [results, go_sem]) rfl HQ.out
theorem yr_go (t0 t3 : Value) (tb tofs n xc b9 : Nat) (p : Int) (k : Nat) (t11 t12 t13 t14 t15 t16 t17 t18 t19 t20 t21 t22 t23 t24 t26 t27 t28 t29 t30 t31 t32 t33 t34 t35 t36 t38 t39 t40 t41 t42 : Value) (w : World) (Q : Ending -> World -> Prop) :
  yrIf.wp tP (Exit.then (fun a u => a = YA t0 (.slice (some ⟨tb, tofs, none⟩) n xc) (.int .i64 p) t3 b9 (.int .i64 (k : Int)) t11 t12 t13 t14 t15 t16 t17 t18 t19 t20 t21 t22 t23 t24 (.int .i64 (k : Int)) t26 t27 t28 t29 t30 t31 t32 t33 t34 t35 t36 (.bool false) t38 t39 t40 t41 t42 /\ u = w) (bodyPost tP Tryd.f47 Q)) (YA t0 (.slice (some ⟨tb, tofs, none⟩) n xc) (.int .i64 p) t3 b9 (.int .i64 (k : Int)) t11 t12 t13 t14 t15 t16 t17 t18 t19 t20 t21 t22 t23 t24 (.int .i64 (k : Int)) t26 t27 t28 t29 t30 t31 t32 t33 t34 t35 t36 (.bool false) t38 t39 t40 t41 t42) w := by
 simp only [YA, yrIf, yrIn, yrL, yrBody, Tryd.f47, Option.getD_some]
 go_wp2
 exact ⟨by first | rfl | trivial, by first | rfl | trivial⟩
theorem yr_inc (t0 t3 : Value) (tb tofs n xc b9 : Nat) (p : Int) (k : Nat) (hk : k < 7) (t10 t11 t12 t13 t14 t15 t16 t17 t18 t19 t20 t21 t22 t23 t24 t26 t27 t28 t29 t30 t31 t32 t33 t34 t35 t36 t37 t38 t39 t40 t41 t42 : Value) (w : World) (Q : Ending -> World -> Prop) :
  yrInc.wp tP (Exit.then (fun a u => a = YA t0 (.slice (some ⟨tb, tofs, none⟩) n xc) (.int .i64 p) t3 b9 t10 t11 t12 t13 t14 t15 t16 t17 t18 t19 t20 t21 t22 t23 t24 (.int .i64 ((k + 1 : Nat) : Int)) t26 t27 t28 t29 t30 t31 t32 t33 t34 t35 t36 t37 t38 t39 t40 t41 (.int .i64 ((k + 1 : Nat) : Int)) /\ u = w) (bodyPost tP Tryd.f47 Q)) (YA t0 (.slice (some ⟨tb, tofs, none⟩) n xc) (.int .i64 p) t3 b9 t10 t11 t12 t13 t14 t15 t16 t17 t18 t19 t20 t21 t22 t23 t24 (.int .i64 (k : Int)) t26 t27 t28 t29 t30 t31 t32 t33 t34 t35 t36 t37 t38 t39 t40 t41 t42) w := by
 have hk' : (k : Int) + 1 <= 7 := by omega
 have hw : IntKind.wrap .i64 ((k : Int) + 1) = ((k + 1 : Nat) : Int) := by rw [IntWalk.i64_in _ (by omega)]; rfl
 simp only [YA, yrInc, yrL, yrBody, Tryd.f47, Option.getD_some]
 go_wp2
 exact ⟨by first | rfl | trivial | (rw [hw]) | (rw [hw]; trivial), by first | rfl | trivial⟩
set_option maxHeartbeats 1000000 in
theorem yr_grow (t0 t3 : Value) (tb tofs n xc b9 : Nat) (p : Int) (hp : 0 <= p /\ p <= 100) (k : Nat) (t10 t11 t12 t13 t14 t15 t16 t17 t18 t19 t20 t21 t22 t23 t24 t26 t27 t28 t29 t30 t31 t32 t33 t34 t35 t36 t37 t38 t39 t40 t41 t42 : Value) (w : World) (Q : Ending -> World -> Prop) (V : BkV) (B : Bk) (hG : Good B) (hs : BkIn w V B) (hpc : V.pa = none -> V.pc = 0) (hB : Box9 w b9 V B) (m : Nat) (hm : m <= b9) :
  yrGrow.wp tP (Exit.then (fun a u => (∃ t39 t40 t41, a = YA t0 (.slice (some ⟨tb, tofs, none⟩) n xc) (.int .i64 p) t3 b9 t10 t11 t12 t13 t14 t15 t16 t17 t18 t19 t20 t21 t22 t23 t24 (.int .i64 (k : Int)) t26 t27 t28 t29 t30 t31 t32 t33 t34 t35 t36 t37 t38 t39 t40 t41 t42) /\ ∃ V', BkIn u V' (grownB B p) /\ BkRows u V' /\ (V'.pa = none -> V'.pc = 0) /\ Box9 u b9 V' (grownB B p) /\ Below m w u) (bodyPost tP Tryd.f47 Q)) (YA t0 (.slice (some ⟨tb, tofs, none⟩) n xc) (.int .i64 p) t3 b9 t10 t11 t12 t13 t14 t15 t16 t17 t18 t19 t20 t21 t22 t23 t24 (.int .i64 (k : Int)) t26 t27 t28 t29 t30 t31 t32 t33 t34 t35 t36 t37 t38 t39 t40 t41 t42) w := by
 obtain ⟨ta, la, pa, tc, lc, pc⟩ := V
 obtain ⟨⟨c0, c1, c2, c3⟩, f0, f1, f2, f3⟩ := hB
 have hz := wBk _ _ c0
 have HC := lH (c86 ⟨ta, la, pa, tc, lc, pc⟩ B hG p hp w hs hpc)
 have HG := lH hG
 clear hs hpc
 simp only [YA, yrGrow, yrIn, yrL, yrBody, Tryd.f47, Option.getD_some]
 go_wp2_with fail
 refine HC.out.mono ?_
 rintro e w2 ⟨⟨va, vl, vp, vtc, vlc, vpc⟩, O, rfl, hO, hb⟩
 have HO := lH hO
 have HBB := lH hb
 have HRW := lH (own_rows hO (show 0 < B.towns.length by have := HG.out.fine.towns; omega) (show 0 < B.links.length by have := HG.out.fine.towns; have h3 := HG.out.fine.links; unfold Bk.spokes at h3; omega))
 have hb' := bcell hb
 have g0 := (hb'.2 b9 0 hz).trans f0
 have g1 := (hb'.2 b9 1 hz).trans f1
 have g2 := (hb'.2 b9 2 hz).trans f2
 have g3 := (hb'.2 b9 3 hz).trans f3
 have r0 := (hb'.1 b9 0 hz).trans c0
 have r1 := (hb'.1 b9 1 hz).trans c1
 have r2 := (hb'.1 b9 2 hz).trans c2
 have r3 := (hb'.1 b9 3 hz).trans c3
 clear hb hb' hO HC c0 c1 c2 c3 f0 f1 f2 f3
 go_wp2
 have HO4 := (((HO.out.far (b := b9) (o := 0) (.int .i64 B.hours) hz).far (b := b9) (o := 1) (.slice va B.towns.length vtc) hz).far (b := b9) (o := 2) (.slice vl B.links.length vlc) hz).far (b := b9) (o := 3) (.slice vp B.pairs.length vpc) hz
 refine ⟨⟨_, _, _, rfl⟩, ⟨va, vl, vp, vtc, vlc, vpc⟩, HO4.inn (grownB_small HG.out p), ⟨?_, ?_, HO4.rp⟩, HO4.pc, ?_, ?_⟩
 ·exact rowAt_setCell _ _ (rowAt_setCell _ _ (rowAt_setCell _ _ (rowAt_setCell _ _ HRW.out.ta)))
 ·exact rowAt_setCell _ _ (rowAt_setCell _ _ (rowAt_setCell _ _ (rowAt_setCell _ _ HRW.out.la)))
 ·have el : (grownB B p).pairs.length = B.pairs.length := by simp [grownB]
  unfold Box9
  rw [el]
  clear HO4
  refine ⟨⟨?_, ?_, ?_, ?_⟩, ?_, ?_, ?_, ?_⟩
  all_goals simp [go_sem, r0, r1, r2, r3, g0, g1, g2, g3, grownB]
 ·exact ((((HBB.out.mono (by omega)).setCell (p := ⟨b9, 0, none⟩) hm _).setCell (p := ⟨b9, 1, none⟩) hm _).setCell (p := ⟨b9, 2, none⟩) hm _).setCell (p := ⟨b9, 3, none⟩) hm _
set_option maxHeartbeats 2000000 in
theorem yr_mid (R : Value -> World -> Prop) (tl : List Item) (t0 t3 : Value) (tb tofs xc b9 : Nat) (p : Int) (T : Nat -> Int) (t10 t11 t12 t13 t14 t15 t16 t17 t18 t19 t20 t21 t22 t23 t24 t25 t26 t27 t28 t29 t30 t31 t32 t33 t34 t35 t36 t37 t38 t39 t40 t41 t42 : Value) (w : World) (V : BkV) (B : Bk) (hs : BkIn w V B) (hv : Vars w) (hr : BkRows w V) (hB9 : Box9 w b9 V B) (hT : TrAt w tb tofs B.links.length T)
  (h28 : t28 = .pointer (some ⟨b9, 0, none⟩)) (h29 : t29 = V.val B)
  (k : ∀ t11 t12 t13 t14 t15 t16 t17 t18 t19 t20 t21 t22 t23 t24 t26 t27 t28 t29 t30 t31 t32 t33 t34 t35 t36 t37 t38 t39 t40 t41 t42 w2, Kept w.heap.size w w2 -> (B.alarm = 0 -> ∀ b, b = carryB B T -> t37 = .bool (!b)) -> (B.alarm ≠ 0 -> t37 = .bool true) -> GL tP 47 tl R (YA t0 (.slice (some ⟨tb, tofs, none⟩) B.links.length xc) (.int .i64 p) t3 b9 t10 t11 t12 t13 t14 t15 t16 t17 t18 t19 t20 t21 t22 t23 t24 t25 t26 t27 t28 t29 t30 t31 t32 t33 t34 t35 t36 t37 t38 t39 t40 t41 t42) w2) :
  GL tP 47 (.inRegion yrOps [2, 3, 4, 5, 6, 7, 8, 9] :: tl) R (YA t0 (.slice (some ⟨tb, tofs, none⟩) B.links.length xc) (.int .i64 p) t3 b9 t10 t11 t12 t13 t14 t15 t16 t17 t18 t19 t20 t21 t22 t23 t24 t25 t26 t27 t28 t29 t30 t31 t32 t33 t34 t35 t36 t37 t38 t39 t40 t41 t42) w := by
 subst h28 h29
 obtain ⟨ta, la, pa, tc, lc, pc⟩ := V
 have h19 : CallsL tP 19 #[.agg #[.int .i64 B.hours, .slice ta B.towns.length tc, .slice la B.links.length lc, .slice pa B.pairs.length pc]] w (fun v w' => v = .int .i64 B.alarm /\ Kept w.heap.size w w') := callsL_of_calls good (R := fun v w' => v = .int .i64 B.alarm /\ Kept w.heap.size w w') (fun v w' τ d r => ⟨r.1, kept_tp.1 r.2⟩) fun τ => (c19 ⟨ta, la, pa, tc, lc, pc⟩ B (w.tp τ 0 noJ) hs.tp hv.v2.tp).mono (by
  rintro e w' ⟨rfl, hb⟩
  exact ⟨_, rfl, rfl, kept_tpl.1 (by have := Kept.of_below hb; rwa [size_tp] at this)⟩)
 simp only [YA, yrOps, yrIn, yrL, yrBody, Tryd.f47, Option.getD_some]
 refine gl_call good (g := 19) (args := #[.agg #[.int .i64 B.hours, .slice ta B.towns.length tc, .slice la B.links.length lc, .slice pa B.pairs.length pc]]) (by rfl) (by rfl) (fun u => by go_simp) h19 ?_
 rintro v w1 ⟨rfl, hk1⟩
 by_cases h0 : B.alarm = 0
 ·rw [h0]
  have L1 : LkPre w1 ⟨ta, la, pa, tc, lc, pc⟩ B tb tofs T := (LkPre.mk (good_of_alarm h0).fine (good_of_alarm h0).steps hs.at hT hr.ta hr.la hr.pa hv.g0 hv.g1 hv.gl : LkPre w ⟨ta, la, pa, tc, lc, pc⟩ B tb tofs T).kept hk1
  have c0 := kept_cell hk1 (nR _) hB9.1.1
  have c1 := kept_cell hk1 (nR _) hB9.1.2.1
  have c2 := kept_cell hk1 (nR _) hB9.1.2.2.1
  have c3 := kept_cell hk1 (nR _) hB9.1.2.2.2
  have hz := wBk _ _ c0
  refine gl_comes good (Q := fun it a u => it = .inRegion yrOps [7, 8, 9] :: tl /\ a = YA t0 (.slice (some ⟨tb, tofs, none⟩) B.links.length xc) (.int .i64 p) t3 b9 t10 t11 t12 t13 t14 t15 t16 t17 t18 t19 t20 t21 t22 t23 t24 t25 t26 t27 (.pointer (some ⟨b9, 0, none⟩)) (.agg #[.int .i64 B.hours, .slice ta B.towns.length tc, .slice la B.links.length lc, .slice pa B.pairs.length pc]) (.int .i64 0) (.bool false) (.bool false) (.agg #[.int .i64 B.hours, .slice ta B.towns.length tc, .slice la B.links.length lc, .slice pa B.pairs.length pc]) (.slice (some ⟨tb, tofs, none⟩) B.links.length xc) t35 t36 t37 t38 t39 t40 t41 t42 /\ ∃ τ, u = w1.tp τ 0 noJ) (fun τ => ?_) ?_
  ·have d0 := (cell_tp (w := w1) (τ := τ) (d := 0) ⟨b9, 0, none⟩).trans c0
   have d1 := (cell_tp (w := w1) (τ := τ) (d := 0) ⟨b9, 1, none⟩).trans c1
   have d2 := (cell_tp (w := w1) (τ := τ) (d := 0) ⟨b9, 2, none⟩).trans c2
   have d3 := (cell_tp (w := w1) (τ := τ) (d := 0) ⟨b9, 3, none⟩).trans c3
   have hz' : b9 < (w1.tp τ 0 noJ).heap.size := by rw [size_tp]; exact hz
   clear h19 L1 hs hv hr hB9 hT c0 c1 c2 c3 hz hk1
   generalize hu : w1.tp τ 0 noJ = u at d0 d1 d2 d3 hz' ⊢
   refine comes_val rfl rfl (w1 := u) (v := .bool false) (by go_simp) ?_
   refine comes_val rfl rfl (w1 := u) (v := .bool false) (by go_simp) ?_
   refine comes_val rfl rfl (w1 := u) (v := .agg #[.int .i64 B.hours, .slice ta B.towns.length tc, .slice la B.links.length lc, .slice pa B.pairs.length pc]) (by go_simp) ?_
   refine comes_val rfl rfl (w1 := u) (v := .slice (some ⟨tb, tofs, none⟩) B.links.length xc) (by go_simp) ?_
   exact comes_here ⟨rfl, rfl, τ, hu.symm⟩
  ·rintro it a u ⟨rfl, rfl, τ, rfl⟩
   refine gl_pt ?_
   simp only [YA, yrOps, yrIn, yrL, yrBody, Tryd.f47, Option.getD_some]
   refine gl_call good (g := 85) (args := #[.agg #[.int .i64 B.hours, .slice ta B.towns.length tc, .slice la B.links.length lc, .slice pa B.pairs.length pc], .slice (some ⟨tb, tofs, none⟩) B.links.length xc]) (by rfl) (by rfl) (fun u => by go_simp) (carry_L w1 ⟨ta, la, pa, tc, lc, pc⟩ B tb tofs xc T L1) ?_
   rintro v w2 ⟨rfl, hk2⟩
   have hk3 : Kept w.heap.size w w2 := hk1.trans (hk2.mono hk1.size)
   obtain ⟨b, hb⟩ : ∃ b, b = carryB B T := ⟨_, rfl⟩
   rw [<- hb]
   refine gl_comes good (Q := fun it a u => it = tl /\ a = YA t0 (.slice (some ⟨tb, tofs, none⟩) B.links.length xc) (.int .i64 p) t3 b9 t10 t11 t12 t13 t14 t15 t16 t17 t18 t19 t20 t21 t22 t23 t24 t25 t26 t27 (.pointer (some ⟨b9, 0, none⟩)) (.agg #[.int .i64 B.hours, .slice ta B.towns.length tc, .slice la B.links.length lc, .slice pa B.pairs.length pc]) (.int .i64 0) (.bool false) (.bool false) (.agg #[.int .i64 B.hours, .slice ta B.towns.length tc, .slice la B.links.length lc, .slice pa B.pairs.length pc]) (.slice (some ⟨tb, tofs, none⟩) B.links.length xc) (.bool b) (.bool (!b)) (.bool (!b)) t38 t39 t40 t41 t42 /\ ∃ τ, u = w2.tp τ 0 noJ) (fun τ => ?_) ?_
   ·generalize hu : w2.tp τ 0 noJ = u
    clear h19 L1 hs hv hr hB9 hT c0 c1 c2 c3 hz hk1 hk2 hk3 hb k
    refine comes_val rfl rfl (w1 := u) (v := .bool (!b)) (by go_simp) ?_
    refine comes_val rfl rfl (w1 := u) (v := .bool (!b)) (by cases b <;> go_simp) ?_
    exact comes_regEnd (comes_here ⟨rfl, rfl, τ, hu.symm⟩)
   ·rintro it a u ⟨rfl, rfl, τ, rfl⟩
    exact gl_pt (k _ _ _ _ _ _ _ _ _ _ _ _ _ _ _ _ _ _ _ _ _ _ _ _ _ _ _ _ _ _ _ w2 hk3 (fun _ b' hb' => by rw [hb', hb]) (fun h => absurd h0 h))
 ·have hne : (B.alarm != 0) = true := by simpa using h0
  refine gl_comes good (Q := fun it a u => it = .inRegion yrOps [5, 6, 7, 8, 9] :: tl /\ a = YA t0 (.slice (some ⟨tb, tofs, none⟩) B.links.length xc) (.int .i64 p) t3 b9 t10 t11 t12 t13 t14 t15 t16 t17 t18 t19 t20 t21 t22 t23 t24 t25 t26 t27 (.pointer (some ⟨b9, 0, none⟩)) (.agg #[.int .i64 B.hours, .slice ta B.towns.length tc, .slice la B.links.length lc, .slice pa B.pairs.length pc]) (.int .i64 B.alarm) (.bool true) (.bool true) t33 t34 t35 t36 t37 t38 t39 t40 t41 t42 /\ ∃ τ, u = w1.tp τ 0 noJ) (fun τ => ?_) ?_
  ·generalize hu : w1.tp τ 0 noJ = u
   generalize B.alarm = al at *
   clear h19 hs hv hr hB9 hT hk1 k
   refine comes_val rfl rfl (w1 := u) (v := .bool true) (by go_simp) ?_
   refine comes_val rfl rfl (w1 := u) (v := .bool true) (by go_simp) ?_
   exact comes_here ⟨rfl, rfl, τ, hu.symm⟩
  ·rintro it a u ⟨rfl, rfl, τ, rfl⟩
   refine gl_pt ?_
   simp only [YA, yrOps, yrIn, yrL, yrBody, Tryd.f47, Option.getD_some]
   refine gl_unwanted good (by rfl) (by rfl) ?_
   refine gl_unwanted good (by rfl) (by rfl) ?_
   refine gl_unwanted good (by rfl) (by rfl) ?_
   refine gl_unwanted good (by rfl) (by rfl) ?_
   refine gl_comes good (Q := fun it a u => it = tl /\ a = YA t0 (.slice (some ⟨tb, tofs, none⟩) B.links.length xc) (.int .i64 p) t3 b9 t10 t11 t12 t13 t14 t15 t16 t17 t18 t19 t20 t21 t22 t23 t24 t25 t26 t27 (.pointer (some ⟨b9, 0, none⟩)) (.agg #[.int .i64 B.hours, .slice ta B.towns.length tc, .slice la B.links.length lc, .slice pa B.pairs.length pc]) (.int .i64 B.alarm) (.bool true) (.bool true) (ud) (ud) (ud) (ud) (.bool true) t38 t39 t40 t41 t42 /\ ∃ τ, u = w1.tp τ 0 noJ) (fun τ => ?_) ?_
   ·generalize hu : w1.tp τ 0 noJ = u
    clear h19 hs hv hr hB9 hT hk1 k
    refine comes_val rfl rfl (w1 := u) (v := .bool true) (by go_simp) ?_
    exact comes_regEnd (comes_here ⟨rfl, rfl, τ, hu.symm⟩)
   ·rintro it a u ⟨rfl, rfl, τ, rfl⟩
    exact gl_pt (k _ _ _ _ _ _ _ _ _ _ _ _ _ _ _ _ _ _ _ _ _ _ _ _ _ _ _ _ _ _ _ w1 hk1 (fun h => absurd h h0) (fun _ => rfl))
theorem comes_frame {P : Program} {Q : List Item -> Act -> World -> Prop} {a : Act} {w : World} {it : List Item} (tl : List Item) (h : Comes P it Q a w) : Comes P (it ++ tl) (fun it' a w => ∃ i, it' = i ++ tl /\ Q i a w) a w := by
 intro b k cs
 obtain ⟨it', a', w', q, s⟩ := h b (tl ++ k) cs
 exact ⟨it' ++ tl, a', w', ⟨it', rfl, q⟩, by simpa only [List.append_assoc] using s⟩
theorem gl_stretch {f : FuncId} {R : Value -> World -> Prop} {a b : Act} {w : World} {it jt : List Item} (tl : List Item) (h : ∀ u, Comes tP it (fun i a' u' => i = jt /\ a' = b /\ u' = u) a u) (k : GL tP f (jt ++ tl) R b w) : GL tP f (it ++ tl) R a w :=
 gl_comes good (Q := fun i a' u => i = jt ++ tl /\ a' = b /\ ∃ τ, u = w.tp τ 0 noJ) (fun τ => (comes_frame tl (h _)).mono fun i a' u ⟨j, e1, e2, e3, e4⟩ => ⟨by rw [e1, e2], e3, τ, e4⟩) fun i a' u ⟨e1, e2, τ, e3⟩ => by
  subst e1 e2 e3
  exact gl_pt k
theorem yr_head7 (t0 t3 : Value) (tb tofs n xc b9 : Nat) (p : Int) (t10 t11 t12 t13 t14 t15 t16 t17 t18 t19 t20 t21 t22 t23 t24 t26 t27 t28 t29 t30 t31 t32 t33 t34 t35 t36 t37 t38 t39 t40 t41 t42 : Value) (w : World) :
  Comes tP [.code yrR7] (fun it a u => it = [] /\ a = YA t0 (.slice (some ⟨tb, tofs, none⟩) n xc) (.int .i64 p) t3 b9 t10 t11 t12 t13 t14 t15 t16 t17 t18 t19 t20 t21 t22 t23 t24 (.int .i64 7) (.bool false) t27 t28 t29 t30 t31 t32 t33 t34 t35 t36 t37 t38 t39 t40 t41 t42 /\ u = w) (YA t0 (.slice (some ⟨tb, tofs, none⟩) n xc) (.int .i64 p) t3 b9 t10 t11 t12 t13 t14 t15 t16 t17 t18 t19 t20 t21 t22 t23 t24 (.int .i64 7) t26 t27 t28 t29 t30 t31 t32 t33 t34 t35 t36 t37 t38 t39 t40 t41 t42) w := by
 simp only [YA, yrR7, yrL, yrBody, Tryd.f47, Option.getD_some]
 refine comes_code ?_
 go_wp2
 exact comes_here ⟨rfl, rfl, rfl⟩
theorem gl_codeK {R : Value -> World -> Prop} {a b : Act} {w : World} {kk : List Item} {x : Code} (h : ∀ u Q, x.wp tP (Exit.then (fun a' u' => a' = b /\ u' = u) (bodyPost tP Tryd.f47 Q)) a u) (k : GL tP 47 kk R b w) : GL tP 47 (.code x :: kk) R a w :=
 gl_code good (fun a' u => a' = b /\ ∃ τ, u = w.tp τ 0 noJ) Tryd.func47 (fun τ => Code.wp_mono (fun e a' u q => by
  cases e with
  | normal => exact ⟨q.1, τ, q.2⟩
  | _ => exact q) (h _ _)) fun a' u ⟨e1, τ, e2⟩ => by
  subst e1 e2
  exact gl_pt k
theorem kept_tpm {n : Nat} {w w' : World} {τ : Nat -> Question -> Nat} {d : Nat} : Kept n (w.tp τ d noJ) w' ↔ Kept n w w' := by
 have := Kept.tp (n := n) (w := w) (w' := w') τ w'.tape d w'.drawn
 rwa [tp_self] at this
theorem yrCond_eq : yrCond = .cond (.tmp 26) .skip (.exit 1) := rfl
theorem yr_end (t0 t3 : Value) (tb tofs n xc b9 : Nat) (p : Int) (t10 t11 t12 t13 t14 t15 t16 t17 t18 t19 t20 t21 t22 t23 t24 t25 t26 t27 t28 t29 t30 t31 t32 t33 t34 t35 t36 t37 t38 t39 t40 t41 t42 : Value) (w : World) (Q : Ending -> World -> Prop) (hQ : Q (.returned (.tuple #[.int .i64 0, .bool false, .int .i64 0])) w) :
  yrEnd.wp tP (bodyPost tP Tryd.f47 Q) (YA t0 (.slice (some ⟨tb, tofs, none⟩) n xc) (.int .i64 p) t3 b9 t10 t11 t12 t13 t14 t15 t16 t17 t18 t19 t20 t21 t22 t23 t24 t25 t26 t27 t28 t29 t30 t31 t32 t33 t34 t35 t36 t37 t38 t39 t40 t41 t42) w := by
 have HQ := lH hQ
 clear hQ
 simp only [YA, yrEnd, yrBody, Tryd.f47, Option.getD_some]
 go_wp2
 exact bodyPost_ret (v := .tuple #[.int .i64 0, .bool false, .int .i64 0]) (by simp [results, go_sem]) rfl HQ.out
theorem TrAt.kept {w w' : World} {tb tofs n : Nat} {T : Nat -> Int} (h : TrAt w tb tofs n T) (hk : Kept w.heap.size w w') : TrAt w' tb tofs n T := ⟨fun k hkk => kept_cell hk (nR _) (h.get k hkk), h.pos⟩
theorem box9_kept {w w' : World} {b9 : Nat} {V : BkV} {B : Bk} (h : Box9 w b9 V B) (hk : Kept w.heap.size w w') : Box9 w' b9 V B := by
 obtain ⟨⟨c0, c1, c2, c3⟩, f0, f1, f2, f3⟩ := h
 have hz := wBk _ _ c0
 have hf : ∀ o, w'.frozen? ⟨b9, o, none⟩ = w.frozen? ⟨b9, o, none⟩ := fun o => by
  unfold World.frozen?
  rw [hk.block b9 hz]
 exact ⟨⟨kept_cell hk (nR _) c0, kept_cell hk (nR _) c1, kept_cell hk (nR _) c2, kept_cell hk (nR _) c3⟩, (hf 0).trans f0, (hf 1).trans f1, (hf 2).trans f2, (hf 3).trans f3⟩
def YearR (w0 : World) (T : Nat -> Int) (p : Int) (f k : Nat) (B : Bk) (v : Value) (w' : World) : Prop := v = yearOut (yearD T p f k B) /\ Kept w0.heap.size w0 w'
set_option maxHeartbeats 2000000 in
theorem yr_loop (w0 : World) (t0 t3 : Value) (tb tofs n xc b9 : Nat) (p : Int) (hp : 0 <= p /\ p <= 100) (T : Nat -> Int) (hT : TrAt w0 tb tofs n T) (hv : Vars w0) (hb9 : w0.heap.size <= b9) :
  ∀ (f k : Nat) (_ : k + f = 7) (V : BkV) (B : Bk) (w : World) (t10 t11 t12 t13 t14 t15 t16 t17 t18 t19 t20 t21 t22 t23 t24 t26 t27 t28 t29 t30 t31 t32 t33 t34 t35 t36 t37 t38 t39 t40 t41 t42 : Value) (_ : Kept w0.heap.size w0 w) (_ : BkIn w V B) (_ : BkRows w V) (_ : V.pa = none -> V.pc = 0) (_ : Box9 w b9 V B) (_ : B.links.length = n),
   GL tP 47 [.code yrL, .inLoop yrL, .inBlock 1, .code yrEnd] (YearR w0 T p f k B) (YA t0 (.slice (some ⟨tb, tofs, none⟩) n xc) (.int .i64 p) t3 b9 t10 t11 t12 t13 t14 t15 t16 t17 t18 t19 t20 t21 t22 t23 t24 (.int .i64 (k : Int)) t26 t27 t28 t29 t30 t31 t32 t33 t34 t35 t36 t37 t38 t39 t40 t41 t42) w := by
 intro f
 induction f with
 | zero =>
  intro k hk V B w t10 t11 t12 t13 t14 t15 t16 t17 t18 t19 t20 t21 t22 t23 t24 t26 t27 t28 t29 t30 t31 t32 t33 t34 t35 t36 t37 t38 t39 t40 t41 t42 hkw hs hr hpc hB hn
  obtain rfl : k = 7 := by omega
  refine gl_eq yrL_eq (gl_seq good ?_)
  refine gl_stretch (jt := []) [.code (.seq yrCond (.seq (.block 2 yrIn) yrInc)), .inLoop yrL, .inBlock 1, .code yrEnd] (fun u => yr_head7 t0 t3 tb tofs n xc b9 p t10 t11 t12 t13 t14 t15 t16 t17 t18 t19 t20 t21 t22 t23 t24 t26 t27 t28 t29 t30 t31 t32 t33 t34 t35 t36 t37 t38 t39 t40 t41 t42 u) ?_
  refine gl_seq good (gl_eq yrCond_eq (gl_cond good false (by rfl) ?_))
  refine gl_exit good (k' := [.code yrEnd]) (by rfl) ?_
  refine gl_rest good Tryd.func47 fun τ => yr_end t0 t3 tb tofs n xc b9 p _ _ _ _ _ _ _ _ _ _ _ _ _ _ _ _ _ _ _ _ _ _ _ _ _ _ _ _ _ _ _ _ _ _ _ ⟨_, rfl, rfl, kept_tp.2 hkw⟩
 | succ f ih =>
  intro k hk V B w t10 t11 t12 t13 t14 t15 t16 t17 t18 t19 t20 t21 t22 t23 t24 t26 t27 t28 t29 t30 t31 t32 t33 t34 t35 t36 t37 t38 t39 t40 t41 t42 hkw hs hr hpc hB hn
  subst hn
  refine gl_eq yrL_eq (gl_seq good ?_)
  refine gl_stretch (it := [.code yrR7, .code (.seq yrCond (.seq (.block 2 yrIn) yrInc))]) [.inLoop yrL, .inBlock 1, .code yrEnd] (fun u => yr_head t0 t3 tb tofs B.links.length xc b9 p k (by omega) t10 t11 t12 t13 t14 t15 t16 t17 t18 t19 t20 t21 t22 t23 t24 t26 t27 t28 t29 t30 t31 t32 t33 t34 t35 t36 t37 t38 t39 t40 t41 t42 u) ?_
  refine gl_block good ?_
  refine gl_comes good (Q := fun it a u => it = [.inRegion yrOps [2, 3, 4, 5, 6, 7, 8, 9], .code yrIf, .code yrGrow, .inBlock 2, .code yrInc, .inLoop yrL, .inBlock 1, .code yrEnd] /\ a = YA t0 (.slice (some ⟨tb, tofs, none⟩) B.links.length xc) (.int .i64 p) t3 b9 (.int .i64 (k : Int)) t11 t12 t13 t14 t15 t16 t17 t18 t19 t20 t21 t22 t23 t24 (.int .i64 (k : Int)) (.bool true) (.int .i64 (k : Int)) (.pointer (some ⟨b9, 0, none⟩)) (V.val B) t30 t31 t32 t33 t34 t35 t36 t37 t38 t39 t40 t41 t42 /\ ∃ τ, u = w.tp τ 0 noJ) (fun τ => ?_) ?_
  ·have hc := comes_frame [.inBlock 2, .code yrInc, .inLoop yrL, .inBlock 1, .code yrEnd] (yr_in t0 t3 tb tofs B.links.length xc b9 p k t10 t11 t12 t13 t14 t15 t16 t17 t18 t19 t20 t21 t22 t23 t24 (.bool true) t27 t28 t29 t30 t31 t32 t33 t34 t35 t36 t37 t38 t39 t40 t41 t42 (w.tp τ 0 noJ) V B (box9_kept hB (kept_tp.2 (Kept.of_below (bR _ _)))))
   exact hc.mono fun it a u ⟨i, e1, e2, e3, e4⟩ => ⟨by rw [e1, e2]; rfl, e3, τ, e4⟩
  rintro it a u ⟨rfl, rfl, τ, rfl⟩
  refine gl_pt ?_
  refine yr_mid _ _ t0 t3 tb tofs xc b9 p T _ _ _ _ _ _ _ _ _ _ _ _ _ _ _ _ _ _ _ _ _ _ _ _ _ _ _ _ _ _ _ _ _ w V B hs (hv.kept hkw) hr hB (hT.kept hkw) rfl rfl ?_
  intro t11 t12 t13 t14 t15 t16 t17 t18 t19 t20 t21 t22 t23 t24 t26 t27 t28 t29 t30 t31 t32 t33 t34 t35 t36 t37 t38 t39 t40 t41 t42 w2 hk2 hA hA2
  have hkw2 : Kept w0.heap.size w0 w2 := hkw.trans (hk2.mono hkw.size)
  by_cases hgo : B.alarm = 0 /\ carryB B T = true
  ·have e37 : t37 = .bool false := by have := hA hgo.1 _ rfl; rw [hgo.2] at this; exact this
   subst e37
   have eR : YearR w0 T p (f + 1) k B = YearR w0 T p f (k + 1) (grownB B p) := by
    funext v w'
    unfold YearR
    rw [yearD, if_pos hgo]
   rw [eR]
   refine gl_codeK (fun u Q => yr_go t0 t3 tb tofs B.links.length xc b9 p k _ _ _ _ _ _ _ _ _ _ _ _ _ _ _ _ _ _ _ _ _ _ _ _ _ _ _ _ _ _ u Q) ?_
   refine gl_code good (fun a u => (∃ t39 t40 t41, a = YA t0 (.slice (some ⟨tb, tofs, none⟩) B.links.length xc) (.int .i64 p) t3 b9 (.int .i64 (k : Int)) t11 t12 t13 t14 t15 t16 t17 t18 t19 t20 t21 t22 t23 t24 (.int .i64 (k : Int)) t26 t27 t28 t29 t30 t31 t32 t33 t34 t35 t36 (.bool false) t38 t39 t40 t41 t42) /\ ∃ V', BkIn u V' (grownB B p) /\ BkRows u V' /\ (V'.pa = none -> V'.pc = 0) /\ Box9 u b9 V' (grownB B p) /\ Kept w0.heap.size w2 u) Tryd.func47 (fun τ => Code.wp_mono (fun e a' u q => by
    cases e with
    | normal =>
     obtain ⟨q1, V', q2, q3, q4, q5, q6⟩ := q
     exact ⟨q1, V', q2, q3, q4, q5, kept_tpm.1 (Kept.of_below q6)⟩
    | _ => exact q) (yr_grow t0 t3 tb tofs B.links.length xc b9 p hp k _ _ _ _ _ _ _ _ _ _ _ _ _ _ _ _ _ _ _ _ _ _ _ _ _ _ _ _ _ _ _ _ (w2.tp τ 0 noJ) _ V B (good_of_alarm hgo.1) (hs.kept hk2).tp hpc (box9_kept (box9_kept hB hk2) (kept_tp.2 (Kept.of_below (bR _ _)))) w0.heap.size hb9)) ?_
   rintro a u ⟨⟨t39', t40', t41', rfl⟩, V', q2, q3, q4, q5, q6⟩
   refine gl_inBlock good ?_
   refine gl_codeK (fun u Q => yr_inc t0 t3 tb tofs B.links.length xc b9 p k (by omega) _ _ _ _ _ _ _ _ _ _ _ _ _ _ _ _ _ _ _ _ _ _ _ _ _ _ _ _ _ _ _ _ u Q) ?_
   refine gl_inLoop good ?_
   exact ih (k + 1) (by omega) V' (grownB B p) u _ _ _ _ _ _ _ _ _ _ _ _ _ _ _ _ _ _ _ _ _ _ _ _ _ _ _ _ _ _ _ _ (hkw2.trans q6) q2 q3 q4 q5 rfl
  ·have e37 : t37 = .bool true := by
    by_cases h0 : B.alarm = 0
    ·have := hA h0 _ rfl
     have hc : carryB B T = false := by
      cases e : carryB B T with
      | true => exact absurd ⟨h0, e⟩ hgo
      | false => rfl
     rw [hc] at this
     exact this
    ·exact hA2 h0
   subst e37
   refine gl_code good (fun _ _ => False) Tryd.func47 (fun τ => yr_stop t0 t3 tb tofs B.links.length xc b9 p k _ _ _ _ _ _ _ _ _ _ _ _ _ _ _ _ _ _ _ _ _ _ _ _ _ _ _ _ _ _ (w2.tp τ 0 noJ) _ ⟨_, rfl, ?_, kept_tp.2 hkw2⟩) (fun _ _ h => h.elim)
   rw [yearD, if_neg hgo]; rfl
theorem year_L (w : World) (V : BkV) (B : Bk) (xs : List Int) (xa : Option Addr) (xc : Nat) (p : Int) (hs : BkIn w V B) (hr : BkRows w V) (hpc : V.pa = none -> V.pc = 0) (hv : Vars w) (hx : SlI w xa xs) (hxl : xs.length <= 1000000) (hok : rentedA B xs true = 0) (hp : btw p 0 100 = true) :
  CallsL tP 47 #[V.val B, .slice xa xs.length xc, .int .i64 p] w (YearR w (trk xs) p 7 0 B) := by
 refine (callsL_of_gl good Tryd.func47 (x := yrBody) (by rfl) (R := YearR w (trk xs) p 7 0 B) ?_).mono fun v w' h => sat_mono (fun v w' τ d r => ⟨r.1, kept_tp.1 r.2⟩) h
 obtain ⟨tb, tofs, rfl, hL⟩ := lkPre_of hs hr hv hx hok
 have hyr := fun τ => yr_comes V B xs (some ⟨tb, tofs, none⟩) xc p hp (w.tp τ 0 noJ) hs.tp hv.v2.tp hx.tp hxl hok
 obtain ⟨h0, h1, h2⟩ := rented_ok hok
 have hact : (⟨#[V.val B, .slice (some ⟨tb, tofs, none⟩) xs.length xc, .int .i64 p] ++ Array.replicate (Tryd.f47.ntmps - #[V.val B, .slice (some ⟨tb, tofs, none⟩) xs.length xc, .int .i64 p].size) ud, []⟩ : Act) = ⟨#[V.val B, .slice (some ⟨tb, tofs, none⟩) xs.length xc, .int .i64 p, ud, ud, ud, ud, ud, ud, ud, ud, ud, ud, ud, ud, ud, ud, ud, ud, ud, ud, ud, ud, ud, ud, ud, ud, ud, ud, ud, ud, ud, ud, ud, ud, ud, ud, ud, ud, ud, ud, ud, ud], []⟩ := by
  rw [Tryd.ntmps47]; simp [BkV.val, Array.replicate, List.replicate]
 rw [hact]
 refine gl_comes good (Q := fun it a u => ∃ t3 b9 t10 t11 t12 t13 t14 t15 t16 t17 t18 t19 t20 t21 t22 t23 t24, it = [.code (.block 1 (.loop yrL)), .code yrEnd] /\ a = YA (V.val B) (.slice (some ⟨tb, tofs, none⟩) xs.length xc) (.int .i64 p) t3 b9 t10 t11 t12 t13 t14 t15 t16 t17 t18 t19 t20 t21 t22 t23 t24 (.int .i64 0) ud ud ud ud ud ud ud ud ud ud ud ud ud ud ud ud ud /\ w.heap.size <= b9 /\ Box9 u b9 V B /\ Kept w.heap.size w u) (fun τ => (hyr τ).mono fun it a u ⟨t3, b9, t10, t11, t12, t13, t14, t15, t16, t17, t18, t19, t20, t21, t22, t23, t24, e1, e2, e3, e4, e5⟩ => ⟨t3, b9, t10, t11, t12, t13, t14, t15, t16, t17, t18, t19, t20, t21, t22, t23, t24, e1, e2, by rwa [size_tp] at e3, e4, kept_tpl.1 (by have := Kept.of_below e5; rwa [size_tp] at this)⟩) ?_
 rintro it a u ⟨t3, b9, t10, t11, t12, t13, t14, t15, t16, t17, t18, t19, t20, t21, t22, t23, t24, rfl, rfl, hb9, hB, hk⟩
 refine gl_block good (gl_loop good ?_)
 have hT : TrAt w tb tofs xs.length (trk xs) := by rw [h1]; exact hL.tr
 exact yr_loop w (V.val B) t3 tb tofs xs.length xc b9 p (btw_t hp) (trk xs) hT hv hb9 7 0 (by omega) V B u _ _ _ _ _ _ _ _ _ _ _ _ _ _ _ _ _ _ _ _ _ _ _ _ _ _ _ _ _ _ _ _ hk (hs.kept hk) (hr.kept hk) hpc hB h1.symm
theorem ex_alarm : exB.alarm = 0 := by decide +kernel
theorem ex_hub : bestOf exB noneF = ([4, 3, 1, 0], 80) := by decide +kernel
theorem ex_any : bestOf exB anyF = ([2, 1, 1, 2], 60) := by decide +kernel
theorem ex_best : bestV exB = .tuple #[.int .i64 3, .int .i64 20, .int .i64 0] := by
 unfold bestV
 rw [if_pos ex_alarm, show bestL exB = (3, 20) by decide +kernel]
theorem ex_rent (l : List Int) (h : l.length = 4) (hb : badTrunk l = false) : rentedA exB l true = 0 := by
 unfold rentedA
 rw [if_pos ex_alarm, if_pos (by rw [h]; rfl), hb]; rfl
theorem ex_loads : rentedA exB [4, 3, 1, 0] (thereB exB 0) = 0 := by decide +kernel
theorem ex_bands : bandsTo exB (trk [4, 3, 1, 0]) 0 exB.links.length = [(1, 4), (1, 3), (1, 1), (0, 0)] := by decide +kernel
theorem ex_en1 : enoughV exB [2, 1, 1, 0] = .tuple #[.int .i64 2, .int .i64 0] := by
 unfold enoughV
 rw [if_pos (by decide +kernel), show claimFrom exB (trk [2, 1, 1, 0]) exB.hours.toNat 0 1 = 2 by decide +kernel]
theorem ex_en2 : enoughV exB [1, 1, 1, 3] = .tuple #[.int .i64 0, .int .i64 0] := by
 unfold enoughV
 rw [if_pos (by decide +kernel), show claimFrom exB (trk [1, 1, 1, 3]) exB.hours.toNat 0 1 = 0 by decide +kernel]
theorem ex_en3 : enoughV exB [2, 1, 1, 2] = .tuple #[.int .i64 1, .int .i64 0] := by
 unfold enoughV
 rw [if_pos (by decide +kernel), show claimFrom exB (trk [2, 1, 1, 2]) exB.hours.toNat 0 1 = 1 by decide +kernel]
theorem ex_spare : spareTo exB (trk [2, 2, 1, 3]) 4 = ints [0, 1, 0, 0] := by
 have h : (List.range 4).map (spareAt exB (trk [2, 2, 1, 3])) = [0, 1, 0, 0] := by decide +kernel
 unfold spareTo ints
 rw [<- h, List.map_map]; rfl
theorem ex_more : moreV exB 2 1 = .tuple #[.int .i64 5, .int .i64 0] := by
 unfold moreV
 rw [if_pos (by decide +kernel), if_pos (by decide +kernel), show (bestOf (gtr 2 1 [1] exB).1 anyF).2 - (bestOf exB anyF).2 = 5 by decide +kernel]
theorem ex_aff75 : affV exB 0 75 = .tuple #[.int .i64 1, .int .i64 0] := by
 unfold affV
 rw [if_neg (by rw [ex_alarm]; decide), if_neg (by decide), if_neg (by rw [ex_any]; decide), show affD exB 0 75 5 0 = 1 by decide +kernel]; rfl
theorem ex_aff59 : affV exB 0 59 = .tuple #[.int .i64 0, .int .i64 9] := by
 unfold affV
 rw [if_neg (by rw [ex_alarm]; decide), if_neg (by decide), if_pos (by rw [ex_any]; decide)]
theorem ex_grown : (grownB exB 50).alarm = 0 := by decide +kernel
theorem ex_year : yearD (trk [2, 1, 1, 2]) 10 7 0 exB = some 1 := by decide +kernel
theorem ex_fits : fitsV exB [2, 1, 1, 3] [1, 4, 0] = .tuple #[.bool true, .int .i64 0] := by
 unfold fitsV
 rw [if_pos (by decide +kernel), if_pos (by decide +kernel), if_neg (by decide +kernel), show fitsB exB [2, 1, 1, 3] [1, 4, 0] = true by decide +kernel]
theorem ex_cost : costV exB [4, 3, 1, 0] = .tuple #[.int .i64 80, .int .i64 0] := by
 unfold costV
 rw [if_pos (by decide +kernel), show costUp exB (trk [4, 3, 1, 0]) ([4, 3, 1, 0] : List Int).length = 80 by decide +kernel]
theorem ex_lacks : lacksV exB [1, 1, 1, 3] = .tuple #[.int .i64 0, .int .i64 0, .int .i64 1, .int .i64 0] := by
 unfold lacksV
 rw [if_pos (by decide +kernel)]
 have h0 : exB.hours.toNat = 1 + 1 := by decide +kernel
 have h1 : exB.lackIn (trk [1, 1, 1, 3]) true 0 = 0 := by decide +kernel
 have h2 : exB.inn (trk [1, 1, 1, 3]) true 0 0 - trk [1, 1, 1, 3] 0 = 1 := by decide +kernel
 rw [h0, lacksFrom, if_pos (by rw [h1]; decide), h1]
 exact congrArg (fun x : Int => Value.tuple #[.int .i64 0, .int .i64 0, .int .i64 x, .int .i64 0]) h2
end Go.Proofs.YtaikibfkggglgaaDoor
