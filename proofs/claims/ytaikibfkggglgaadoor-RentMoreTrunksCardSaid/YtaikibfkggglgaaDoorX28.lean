/- A part of the proof of RentMoreTrunks; no conditions of its own. -/
import Derived.Test.YtaikibfkggglgaaDoorX27
set_option maxRecDepth 100000
open Nat renaming le_refl → nR
open Go.Lib renaming hid → lH
open Go.RowKit.Below renaming refl → bR
open Go.Proofs.Tryd renaming prog → tP
open List renaming getElem?_eq_getElem → lG
open List renaming getElem?_eq_some_iff → lS
open Go.World renaming block_lt_of_cell? → wBk
open List renaming getD_eq_getElem?_getD → lD
namespace Go.Proofs.YtaikibfkggglgaaDoor
open Go.RowKit Go.Rent Go.Tp Go.Conc
theorem ex_23 (V : BkV) (u : World) (b c : Nat) (hs : BkIn u V exB) (hv : Vars u) (hx : SlI u (some ⟨b, 0, none⟩) [2, 1, 1, 3]) (hc : SlI u (some ⟨c, 0, none⟩) [1, 4, 0]) : Calls tP 23 #[V.val exB, .slice (some ⟨b, 0, none⟩) 4 4, .slice (some ⟨c, 0, none⟩) 3 3] u fun e u' => e = .returned (.tuple #[.bool true, .int .i64 0]) /\ Below u.heap.size u u' := by
 have h := c23 V exB [2, 1, 1, 3] [1, 4, 0] (some ⟨b, 0, none⟩) (some ⟨c, 0, none⟩) 4 3 u hs hv hx (by decide) hc (by decide)
 rw [ex_fits] at h
 exact h
theorem ex_40 (V : BkV) (u : World) (b : Nat) (hs : BkIn u V exB) (hv : Vars u) (hx : SlI u (some ⟨b, 0, none⟩) [4, 3, 1, 0]) : Calls tP 40 #[V.val exB, .slice (some ⟨b, 0, none⟩) 4 4] u fun e u' => e = .returned (.tuple #[.int .i64 80, .int .i64 0]) /\ Below u.heap.size u u' := by
 have h := c40 V exB [4, 3, 1, 0] (some ⟨b, 0, none⟩) 4 u hs hv hx (by decide)
 rw [ex_cost] at h
 exact h
theorem sl3 {u : World} {b : Nat} {p q r : Int} (h0 : u.cell? ⟨b, 0, none⟩ = some (.int .i64 p)) (h1 : u.cell? ⟨b, 1, none⟩ = some (.int .i64 q)) (h2 : u.cell? ⟨b, 2, none⟩ = some (.int .i64 r)) : SlI u (some ⟨b, 0, none⟩) [p, q, r] := fun j x hx => by
 match j, hx with
 | 0, hx => cases hx; exact ⟨b, 0, rfl, h0⟩
 | 1, hx => cases hx; exact ⟨b, 0, rfl, h1⟩
 | 2, hx => cases hx; exact ⟨b, 0, rfl, h2⟩
theorem lv_keep {u W : World} {x : Obj} {gb pb cb scc pc : Nat} (h : Below u.heap.size u W) (h1 : W.cell? ⟨gb, 3, none⟩ = some (.slice (some ⟨pb, 0, none⟩) 3 pc)) (h2 : W.cell? ⟨pb, 1 * 3 + 2, none⟩ = some (.slice (some ⟨cb, 0, none⟩) 2 scc)) (_ : gb < u.heap.size) (_ : pb < u.heap.size) :
  Below u.heap.size u (W.alloc x) /\ (W.alloc x).cell? ⟨gb, 3, none⟩ = some (.slice (some ⟨pb, 0, none⟩) 3 pc) /\ (W.alloc x).cell? ⟨pb, 1 * 3 + 2, none⟩ = some (.slice (some ⟨cb, 0, none⟩) 2 scc) :=
 ⟨h.alloc h.size _, cell_below ((bR _ _).alloc (nR _) _) h1 (nR _), cell_below ((bR _ _).alloc (nR _) _) h2 (nR _)⟩
set_option maxHeartbeats 4000000 in
theorem lw_C (b1 ha hc la9 lc9 ca cc sp sc gb : Nat) (a : Act) (w : World) (V : BkV) (pb cb scc pcc : Nat) (hB : LawBk w b1 V exB) (hA : LvA w ha la9 ca) (hS : SlI w (some ⟨sp, 0, none⟩) [0, 1, 0, 0]) (hp : w.cell? ⟨gb, 3, none⟩ = some (.slice (some ⟨pb, 0, none⟩) 3 pcc)) (hO : w.cell? ⟨pb, 1 * 3 + 2, none⟩ = some (.slice (some ⟨cb, 0, none⟩) 2 scc)) (hX : SlB w (some ⟨cb, 0, none⟩) [(0, 3), (5, 5)])
  (hSl : Sl a 302 [(35, .int .i64 0), (34, .bool true), (33, .int .i64 1), (32, .int .i64 0), (31, .pointer (some ⟨gb, 0, none⟩)), (30, .int .i64 9), (29, .int .i64 0), (28, .int .i64 0), (27, .int .i64 1), (26, .int .i64 0), (25, .int .i64 5), (24, .int .i64 0), (23, .int .i64 20), (22, .int .i64 3), (21, .int .i64 0), (20, .slice (some ⟨sp, 0, none⟩) 4 sc), (19, .int .i64 0), (18, .int .i64 1), (17, .int .i64 0), (16, .int .i64 0), (15, .int .i64 0), (14, .int .i64 1), (13, .int .i64 0), (12, .int .i64 0), (11, .int .i64 0), (10, .int .i64 2), (9, .int .i64 0), (8, .int .i64 60), (7, .slice (some ⟨ca, 0, none⟩) 4 cc), (6, .int .i64 0), (5, .slice (some ⟨la9, 0, none⟩) 4 lc9), (4, .int .i64 0), (3, .int .i64 80), (2, .slice (some ⟨ha, 0, none⟩) 4 hc), (1, .pointer (some ⟨b1, 0, none⟩)), (0, .bool false)]) : lw16.wp tP (bodyPost tP Tryd.f15 fun e w' => e = .returned (.bool true) /\ Below w.heap.size w w') a w := by
 obtain ⟨ta, la, pa, tc, lc, pc⟩ := V
 obtain ⟨t, rfl, hT⟩ := hSl.lit
 simp only [SlT] at hT
 obtain ⟨h35, h34, h33, h32, h31, h30, h29, h28, h27, h26, h25, h24, h23, h22, h21, h20, h19, h18, h17, h16, h15, h14, h13, h12, h11, h10, h9, h8, h7, h6, h5, h4, h3, h2, h1, h0, _⟩ := hT
 simp only [up, Nat.reduceAdd, h35, h34, h33, h32, h31, h30, h29, h28, h27, h26, h25, h24, h23, h22, h21, h20, h19, h18, h17, h16, h15, h14, h13, h12, h11, h10, h9, h8, h7, h6, h5, h4, h3, h2, h1, h0]
 clear h35 h34 h33 h32 h31 h30 h29 h28 h27 h26 h25 h24 h23 h22 h21 h20 h19 h18 h17 h16 h15 h14 h13 h12 h11 h10 h9 h8 h7 h6 h5 h4 h3 h2 h1 h0 hSl
 have HB : Hid (∀ u, Below w.heap.size w u -> LawBk u b1 ⟨ta, la, pa, tc, lc, pc⟩ exB) := lH fun u hu => hB.below hu
 have hz : b1 < w.heap.size := wBk _ _ hB.c0
 have e0 := hB.c0
 have e1 := hB.c1
 have e2 := hB.c2
 have e3 := hB.c3
 have HA := lH hA
 have HS := lH hS
 have HP := lH hp
 have HO := lH hO
 have HX0 := lH hX
 clear hB hA hS hp hO hX
 simp only [lw16, lw15, lw8, lw7, lw6, lv5, lvBody, Tryd.f15, Option.getD_some]
 go_wp2_with fail
 generalize hWe : (w.alloc (.cells #[.int .i64 2, .int .i64 1, .int .i64 1, .int .i64 3] 3)).alloc (.cells #[.int .i64 1, .int .i64 4, .int .i64 0] 3) = W1
 have hbe : Below w.heap.size w W1 := by subst hWe; exact ((bR _ _).alloc (nR _) _).alloc (by simp) _
 have hsl : SlI W1 (some ⟨w.heap.size, 0, none⟩) [2, 1, 1, 3] := by subst hWe; exact sl4 (by go_simp) (by go_simp) (by go_simp) (by go_simp)
 have hsc : SlI W1 (some ⟨w.heap.size + 1, 0, none⟩) [1, 4, 0] := by subst hWe; exact sl3 (by go_simp) (by go_simp) (by go_simp)
 have HL1 := lH hbe
 have hbk := HB.out W1 HL1.out
 refine (ex_23 ⟨ta, la, pa, tc, lc, pc⟩ W1 w.heap.size (w.heap.size + 1) hbk.book hbk.vars hsl hsc).mono ?_
 rintro e w1 ⟨rfl, hb4⟩
 have HK1 := lH (HL1.out.trans (hb4.mono HL1.out.size))
 clear hWe hbe hsl hsc hbk hb4 hz e0 e1 e2 e3
 have hb' := HB.out w1 HK1.out
 have e0 := hb'.c0
 have e1 := hb'.c1
 have e2 := hb'.c2
 have e3 := hb'.c3
 have hz : b1 < w1.heap.size := wBk _ _ e0
 clear hb'
 go_wp2_with fail
 generalize hWe : w1.alloc (.cells #[.int .i64 4, .int .i64 3, .int .i64 1, .int .i64 0] 3) = W2
 have hbe : Below w1.heap.size w1 W2 := by subst hWe; exact (bR _ _).alloc (nR _) _
 have hsl : SlI W2 (some ⟨w1.heap.size, 0, none⟩) [4, 3, 1, 0] := by subst hWe; exact sl4 (by go_simp) (by go_simp) (by go_simp) (by go_simp)
 have HL2 := lH (HK1.out.trans (hbe.mono HK1.out.size))
 have hbk := HB.out W2 HL2.out
 refine (ex_40 ⟨ta, la, pa, tc, lc, pc⟩ W2 w1.heap.size hbk.book hbk.vars hsl).mono ?_
 rintro e w2 ⟨rfl, hb4⟩
 have HK2 := lH (HL2.out.trans (hb4.mono HL2.out.size))
 clear hWe hbe hsl hbk hb4 hz e0 e1 e2 e3
 go_wp2_with fail
 generalize hWe : w2.alloc (.cells #[.int .i64 4, .int .i64 3, .int .i64 1, .int .i64 0] 3) = W3
 have hbe : Below w2.heap.size w2 W3 := by subst hWe; exact (bR _ _).alloc (nR _) _
 have hsl : SlI W3 (some ⟨w2.heap.size, 0, none⟩) [4, 3, 1, 0] := by subst hWe; exact sl4 (by go_simp) (by go_simp) (by go_simp) (by go_simp)
 have HL3 := lH (HK2.out.trans (hbe.mono HK2.out.size))
 refine (c38 [4, 3, 1, 0] [4, 3, 1, 0] (some ⟨ha, 0, none⟩) (some ⟨w2.heap.size, 0, none⟩) hc 4 W3 (HA.out.hub.below HL3.out (nR _)) hsl (by decide) (by decide)).mono ?_
 rintro e w3 ⟨rfl, hb4⟩
 have HK3 := lH (HL3.out.trans (hb4.mono HL3.out.size))
 clear hWe hbe hsl hb4
 rw [show decide (([4, 3, 1, 0] : List Int) = [4, 3, 1, 0]) = true from by decide]
 go_wp2_with (go_at_call 44; refine (c44x _ _ _).mono ?_; rintro e w' ⟨rfl, rfl⟩)
 generalize hWe : (((((w3.alloc (.cells #[.int .i64 1, .int .i64 4] 53)).alloc (.cells #[.int .i64 1, .int .i64 3] 53)).alloc (.cells #[.int .i64 1, .int .i64 1] 53)).alloc (.cells #[.int .i64 0, .int .i64 0] 53)).alloc (.cells #[.int .i64 1, .int .i64 4, .int .i64 1, .int .i64 3, .int .i64 1, .int .i64 1, .int .i64 0, .int .i64 0] 53)) = W4
 have hbe : Below w3.heap.size w3 W4 := by subst hWe; exact (((((bR _ _).alloc (nR _) _).alloc (by simp) _).alloc (by simp; omega) _).alloc (by simp; omega) _).alloc (by simp; omega) _
 have hsl : SlB W4 (some ⟨w3.heap.size + 1 + 1 + 1 + 1, 0, none⟩) [(1, 4), (1, 3), (1, 1), (0, 0)] := fun j x hx => by
  subst hWe
  match j, hx with
  | 0, hx => cases hx; exact ⟨_, 0, rfl, by go_simp, by go_simp⟩
  | 1, hx => cases hx; exact ⟨_, 0, rfl, by go_simp, by go_simp⟩
  | 2, hx => cases hx; exact ⟨_, 0, rfl, by go_simp, by go_simp⟩
  | 3, hx => cases hx; exact ⟨_, 0, rfl, by go_simp, by go_simp⟩
 have HL4 := lH (HK3.out.trans (hbe.mono HK3.out.size))
 refine (c18 [(1, 4), (1, 3), (1, 1), (0, 0)] [(1, 4), (1, 3), (1, 1), (0, 0)] (some ⟨la9, 0, none⟩) (some ⟨w3.heap.size + 1 + 1 + 1 + 1, 0, none⟩) lc9 4 W4 (HA.out.loads.below HL4.out (nR _)) hsl (by decide) (by decide)).mono ?_
 rintro e w4 ⟨rfl, hb4⟩
 have HK4 := lH (HL4.out.trans (hb4.mono HL4.out.size))
 clear hWe hbe hsl hb4
 rw [show decide (([(1, 4), (1, 3), (1, 1), (0, 0)] : List (Int × Int)) = [(1, 4), (1, 3), (1, 1), (0, 0)]) = true from by decide]
 go_wp2_with fail
 generalize hWe : w4.alloc (.cells #[.int .i64 2, .int .i64 1, .int .i64 1, .int .i64 2] 3) = W5
 have hbe : Below w4.heap.size w4 W5 := by subst hWe; exact (bR _ _).alloc (nR _) _
 have hsl : SlI W5 (some ⟨w4.heap.size, 0, none⟩) [2, 1, 1, 2] := by subst hWe; exact sl4 (by go_simp) (by go_simp) (by go_simp) (by go_simp)
 have HL5 := lH (HK4.out.trans (hbe.mono HK4.out.size))
 refine (c38 [2, 1, 1, 2] [2, 1, 1, 2] (some ⟨ca, 0, none⟩) (some ⟨w4.heap.size, 0, none⟩) cc 4 W5 (HA.out.cheap.below HL5.out (nR _)) hsl (by decide) (by decide)).mono ?_
 rintro e w5 ⟨rfl, hb4⟩
 have HK5 := lH (HL5.out.trans (hb4.mono HL5.out.size))
 clear hWe hbe hsl hb4
 rw [show decide (([2, 1, 1, 2] : List Int) = [2, 1, 1, 2]) = true from by decide]
 go_wp2_with fail
 generalize hWe : w5.alloc (.cells #[.int .i64 0, .int .i64 1, .int .i64 0, .int .i64 0] 3) = W6
 have hbe : Below w5.heap.size w5 W6 := by subst hWe; exact (bR _ _).alloc (nR _) _
 have hsl : SlI W6 (some ⟨w5.heap.size, 0, none⟩) [0, 1, 0, 0] := by subst hWe; exact sl4 (by go_simp) (by go_simp) (by go_simp) (by go_simp)
 have HL6 := lH (HK5.out.trans (hbe.mono HK5.out.size))
 refine (c38 [0, 1, 0, 0] [0, 1, 0, 0] (some ⟨sp, 0, none⟩) (some ⟨w5.heap.size, 0, none⟩) sc 4 W6 (HS.out.below HL6.out (nR _)) hsl (by decide) (by decide)).mono ?_
 rintro e w6 ⟨rfl, hb4⟩
 have HK6 := lH (HL6.out.trans (hb4.mono HL6.out.size))
 clear hWe hbe hsl hb4
 rw [show decide (([0, 1, 0, 0] : List Int) = [0, 1, 0, 0]) = true from by decide]
 have HP6 := lH (cell_below HK6.out HP.out (nR _))
 have hp3 := cell_below HK6.out HO.out (nR _)
 have HX := lH (HX0.out.below HK6.out (nR _))
 go_wp2_with fail
 have hpg := HP6.out
 have H18 : Hid (∀ (W : World) (n : Nat), Below w6.heap.size w6 W -> W.cell? ⟨n, 0, none⟩ = some (.int .i64 0) -> W.cell? ⟨n, 1, none⟩ = some (.int .i64 3) -> W.cell? ⟨n, 2, none⟩ = some (.int .i64 5) -> W.cell? ⟨n, 3, none⟩ = some (.int .i64 5) -> Calls tP 18 #[.slice (some ⟨cb, 0, none⟩) 2 scc, .slice (some ⟨n, 0, none⟩) 2 2] W fun e w' => e = .returned (.bool true) /\ Below w6.heap.size w6 w') := lH fun W n hW k0 k1 k2 k3 => by
  have hsl : SlB W (some ⟨n, 0, none⟩) [(0, 3), (5, 5)] := fun j x hx => by
   match j, hx with
   | 0, hx => cases hx; exact ⟨_, 0, rfl, k0, k1⟩
   | 1, hx => cases hx; exact ⟨_, 0, rfl, k2, k3⟩
  have h := c18 [(0, 3), (5, 5)] [(0, 3), (5, 5)] (some ⟨cb, 0, none⟩) (some ⟨n, 0, none⟩) scc 2 W (HX.out.below hW (nR _)) hsl (by decide) (by decide)
  refine h.mono ?_
  rintro e w' ⟨rfl, hb⟩
  exact ⟨rfl, hW.trans (hb.mono hW.size)⟩
 have hz6 : gb < w6.heap.size := wBk _ _ hpg
 have hz7 : pb < w6.heap.size := wBk _ _ hp3
 have hstart : Below w6.heap.size w6 w6.drew := (bR _ _).drew
 have HK6' := HK6
 go_region_held3 (fun w' => Below w6.heap.size w6 w' /\ w'.cell? ⟨gb, 3, none⟩ = some (.slice (some ⟨pb, 0, none⟩) 3 pcc) /\ w'.cell? ⟨pb, 1 * 3 + 2, none⟩ = some (.slice (some ⟨cb, 0, none⟩) 2 scc))
  (first
   | exact ⟨hstart, hpg, hp3⟩
   | exact ⟨hbel, cell_below hbel hpg (nR _), cell_below hbel hp3 (nR _)⟩
   | (go_split_ands; exact lv_keep (by assumption) (by assumption) (by assumption) hz6 hz7))
  (first
   | (go_simp; go_at_call 44; refine (c44x _ _ _).mono ?_; rintro e w1 ⟨rfl, rfl⟩)
   | (go_simp; go_at_call 18; go_split_ands; (with_reducible refine (H18.out _ _ (by assumption) (by go_simp) (by go_simp) (by go_simp) (by go_simp)).mono ?_); rintro e w1 ⟨rfl, hbel⟩))
 go_split_ands
 have Hfin : Hid (Below w6.heap.size w6 w1) := lH (by assumption)
 go_wp2
 go_ret
 exact ⟨rfl, HK6.out.trans (Hfin.out.mono HK6.out.size)⟩
theorem vars_tp {w : World} {τ : Nat -> Question -> Nat} {d : Nat} (h : Vars w) : Vars (w.tp τ d noJ) := h.kept (kept_tp.2 (Kept.refl _ _))
theorem grown_pair : (grownB exB 50).pairs[1]? = some ⟨1, 2, [(0, 3), (5, 5)]⟩ := by
 have h1 : ((grownB exB 50).pairs[1]?).map (fun p => (p.one, p.two, p.calls)) = some (1, 2, [(0, 3), (5, 5)]) := by decide +kernel
 cases e : (grownB exB 50).pairs[1]? with
 | none => rw [e] at h1; cases h1
 | some p => obtain ⟨x, y, z⟩ := p; rw [e] at h1; cases h1; rfl
theorem LvA.kept {u u' : World} {ha la9 ca : Nat} (h : LvA u ha la9 ca) (hk : Kept u.heap.size u u') : LvA u' ha la9 ca := ⟨h.hub.kept hk, h.loads.kept hk, h.cheap.kept hk⟩
set_option maxHeartbeats 4000000 in
theorem lives_L : LivesL := fun w hv => by
 refine CallsL.mono (R := Sat (LawR w)) (callsL_of_gl good Tryd.func15 (x := lvBody) (by rfl) (R := LawR w) ?_) fun v w' h => sat_mono (R := LawR w) (R' := LawR w) (fun v w' τ d r => ⟨r.1, kept_tp.1 r.2⟩) h
 have hact : (⟨#[] ++ Array.replicate (Tryd.f15.ntmps - (#[] : Array Value).size) undef, []⟩ : Act) = ⟨(List.replicate 302 undef).toArray, []⟩ := by rw [Tryd.ntmps15]; rfl
 rw [hact]
 simp only [List.replicate]
 refine gl_comesT (fun τ => lv_A (w.tp τ 0 noJ) (vars_tp hv)) ?_
 rintro τ0 it a u ⟨V, b1, ha, hc, la9, lc9, ca, cc, t40, t41, t42, t43, t44, t45, t46, t47, t48, t49, t50, t51, t52, t53, t54, t55, t56, t57, t58, rfl, rfl, ⟨B0, B1, B2, B3, B4, B5, B6⟩, hA, hk⟩
 have hB : LawBk u b1 V exB := ⟨B0, B1, B2, B3, B4, B5, B6⟩
 have hkw : Kept w.heap.size w u := kept_tpl.1 (by have := Kept.of_below hk; rwa [size_tp] at this)
 clear hk
 have hS0 : Sl (LvAct b1 ha hc la9 lc9 ca cc t40 t41 t42 t43 t44 t45 t46 t47 t48 t49 t50 t51 t52 t53 t54 t55 t56 t57 t58) 302 [(9, .int .i64 0), (8, .int .i64 60), (7, .slice (some ⟨ca, 0, none⟩) 4 cc), (6, .int .i64 0), (5, .slice (some ⟨la9, 0, none⟩) 4 lc9), (4, .int .i64 0), (3, .int .i64 80), (2, .slice (some ⟨ha, 0, none⟩) 4 hc), (1, .pointer (some ⟨b1, 0, none⟩)), (0, .bool false)] := ⟨rfl, rfl, rfl, rfl, rfl, rfl, rfl, rfl, rfl, rfl, rfl, rfl, trivial⟩
 generalize LvAct b1 ha hc la9 lc9 ca cc t40 t41 t42 t43 t44 t45 t46 t47 t48 t49 t50 t51 t52 t53 t54 t55 t56 t57 t58 = a at *
 refine lw_5 hB hS0 fun a u1 hk1 hS0 => ?_
 replace hB := hB.kept hk1
 replace hA := hA.kept hk1
 replace hkw := hkw.trans (hk1.mono hkw.size)
 clear hk1
 refine lw_6 hB hS0 fun a u1 hk1 hS0 => ?_
 replace hB := hB.kept hk1
 replace hA := hA.kept hk1
 replace hkw := hkw.trans (hk1.mono hkw.size)
 clear hk1
 refine lw_7 hB hS0 fun a u1 hk1 hS0 => ?_
 replace hB := hB.kept hk1
 replace hA := hA.kept hk1
 replace hkw := hkw.trans (hk1.mono hkw.size)
 clear hk1
 rename_i u1
 refine gl_comesT (fun τ => lw_B b1 ha hc la9 lc9 ca cc _ _ V (hB.kept (u' := u1.tp τ 0 noJ) kept_tape) hS0) ?_
 rintro τ1 it a u4 ⟨sp, sc, gb, V', n, O, rfl, hS1, hS, hg3, hO, hb⟩
 have hk4 : Kept u1.heap.size u1 u4 := kept_tpl.1 (by have := Kept.of_below hb; rwa [size_tp] at this)
 replace hB := hB.kept hk4
 replace hA := hA.kept hk4
 replace hkw := hkw.trans (hk4.mono hkw.size)
 have hpa := hO.pa 1 _ grown_pair
 obtain ⟨_, _, scc, hp3⟩ := hO.pairs 1 _ grown_pair
 have hca := hO.calls 1 _ 0 _ grown_pair rfl
 have hcb := hO.calls 1 _ 1 _ grown_pair rfl
 rw [hpa, show exB.pairs.length = 3 from by decide +kernel] at hg3
 have hX : SlB u4 (some ⟨O.cb 1, 0, none⟩) [(0, 3), (5, 5)] := fun j x hx => by
  match j, hx with
  | 0, hx => cases hx; exact ⟨_, 0, rfl, hca.1, hca.2⟩
  | 1, hx => cases hx; exact ⟨_, 0, rfl, hcb.1, hcb.2⟩
 refine lw_15 hB hS1 fun a u5 hk5 hS2 => ?_
 have hB := hB.kept hk5
 have hA := hA.kept hk5
 have hS := hS.kept hk5
 have hX := hX.kept hk5
 have hg3 := kept_cell hk5 (nR _) hg3
 have hp3 := kept_cell hk5 (nR _) hp3
 have hkw := hkw.trans (hk5.mono hkw.size)
 refine gl_rest good Tryd.func15 fun τ => ?_
 have hk6 : Kept u5.heap.size u5 (u5.tp τ 0 noJ) := kept_tape
 refine Code.wp_mono (fun e a u6 h => ?_) (lw_C b1 ha hc la9 lc9 ca cc sp sc gb _ _ V _ _ _ _ (hB.kept hk6) (hA.kept hk6) (hS.kept hk6) (kept_cell hk6 (nR _) hg3) (kept_cell hk6 (nR _) hp3) (hX.kept hk6) hS2)
 have fin : ∀ e, (e = Ending.returned (.bool true) /\ Below (u5.tp τ 0 noJ).heap.size (u5.tp τ 0 noJ) u6) -> ∃ v, e = .returned v /\ LawR w v u6 := fun e ⟨h1, h2⟩ => ⟨_, h1, rfl, kept_from hkw h2⟩
 cases e with
 | normal => obtain ⟨h1, v, h2, h3⟩ := h; exact ⟨h1, v, h2, fin _ h3⟩
 | ret => obtain ⟨h1, v, h2, h3⟩ := h; exact ⟨h1, v, h2, fin _ h3⟩
 | panic chain => exact ⟨h.1, fin _ h.2⟩
 | exit id => exact h
 | goto l => exact h
 | outgrown => exact fin _ h
theorem go_mono (B : Bk) (hB : B.Fine) (T T' : Nat -> Int) (hT : ∀ k, T k <= T' k) (n a b : Int) (out out' : Nat -> Int) (h : ∀ j, j < B.spokes -> out' j <= out j) (hab : a ≠ 0 -> 1 <= a /\ a < b) :
  ∀ j, j < B.spokes -> B.go T' n a b out' j <= B.go T n a b out j := by
 intro j hj
 unfold Bk.go
 by_cases ha : a = 0
 ·rw [if_pos ha, if_pos ha]
  unfold fup
  have h1 := h j hj
  split
  ·rename_i e
   rw [<- e]
   omega
  ·exact h1
 ·rw [if_neg ha, if_neg ha]
  have hab := hab ha
  have hne : (a - 1).toNat ≠ (b - 1).toNat := by omega
  by_cases hk : 0 <= B.direct a b
  ·simp only [if_pos hk]
   have hkb := direct_bd B hB a b
   have hkk : B.spokes <= (B.direct a b).toNat := by omega
   have hTk := hT (B.direct a b).toNat
   generalize (B.direct a b).toNat = k at *
   have h1 : ∀ x (o : Nat -> Int), fup o k x j = o j := fun x o => fup_ne _ _ (by omega)
   have hj' := h j hj
   unfold fup
   simp only [if_neg (Ne.symm hne)]
   have hjk : j ≠ k := by omega
   by_cases e1 : j = (b - 1).toNat
   ·rw [if_pos e1, if_pos e1]
    rw [<- e1, if_neg hjk, if_neg hjk]
    omega
   ·rw [if_neg e1, if_neg e1]
    by_cases e2 : j = (a - 1).toNat
    ·rw [if_pos e2, if_pos e2, <- e2, if_neg hjk, if_neg hjk]
     omega
    ·rw [if_neg e2, if_neg e2, if_neg hjk, if_neg hjk]
     exact hj'
  ·simp only [if_neg hk]
   have hj' := h j hj
   unfold fup
   simp only [if_neg (Ne.symm hne)]
   by_cases e1 : j = (b - 1).toNat
   ·rw [if_pos e1, if_pos e1, <- e1]
    omega
   ·rw [if_neg e1, if_neg e1]
    by_cases e2 : j = (a - 1).toNat
    ·rw [if_pos e2, if_pos e2, <- e2]
     omega
    ·rw [if_neg e2, if_neg e2]
     exact hj'
theorem loadTo_mono (B : Bk) (hB : B.Fine) (T T' : Nat -> Int) (hT : ∀ k, T k <= T' k) (c : Nat -> Int) : ∀ i, i <= B.pairs.length -> ∀ j, j < B.spokes -> B.loadTo T' c i j <= B.loadTo T c i j
 | 0, _, _, _ => Int.le_refl _
 | i + 1, hi, j, hj => by
  unfold Bk.loadTo
  have he := hB.ends i (by omega)
  exact go_mono B hB T T' hT _ _ _ _ _ (loadTo_mono B hB T T' hT c i (by omega)) (fun h => by omega) j hj
theorem lackFrom_neg {l T : Nat -> Int} : ∀ n i, lackFrom l T n i < 0 ↔ ∀ j, i <= j -> j < i + n -> l j <= T j
 | 0, i => by simp only [lackFrom]; exact ⟨fun _ j h1 h2 => by omega, fun _ => by omega⟩
 | n + 1, i => by
  unfold lackFrom
  have ih := lackFrom_neg (l := l) (T := T) n (i + 1)
  split
  ·rename_i h
   exact ⟨fun hh => by omega, fun hh => by have := hh i (nR _) (by omega); omega⟩
  ·rename_i h
   rw [ih]
   refine ⟨fun hh j h1 h2 => ?_, fun hh j h1 h2 => hh j (by omega) (by omega)⟩
   by_cases e : j = i
   ·subst e; omega
   ·exact hh j (by omega) (by omega)
theorem lackIn_neg (B : Bk) (T : Nat -> Int) (most : Bool) (h : Nat) : B.lackIn T most h < 0 ↔ ∀ j, j < B.spokes -> B.inn T most h j <= T j := by
 unfold Bk.lackIn Bk.lack
 rw [lackFrom_neg]
 exact ⟨fun hh j hj => hh j (Nat.zero_le _) (by omega), fun hh j _ hj => hh j (by omega)⟩
theorem lackIn_mono (B : Bk) (hB : B.Fine) (T T' : Nat -> Int) (hT : ∀ k, T k <= T' k) (most : Bool) (h : Nat) (hl : B.lackIn T most h < 0) : B.lackIn T' most h < 0 := by
 rw [lackIn_neg] at hl ⊢
 intro j hj
 have h1 := hl j hj
 have h2 := loadTo_mono B hB T T' hT (B.call most h) B.pairs.length (nR _) j hj
 have h3 := hT j
 unfold Bk.inn Bk.load at *
 omega
theorem claim_one (B : Bk) (T : Nat -> Int) : ∀ n i c, claimFrom B T n i c = 1 ↔ c = 1 /\ ∀ h, i <= h -> h < i + n -> B.lackIn T false h < 0 /\ B.lackIn T true h < 0
 | 0, i, c => by simp only [claimFrom]; exact ⟨fun h => ⟨h, fun _ _ _ => by omega⟩, fun h => h.1⟩
 | n + 1, i, c => by
  unfold claimFrom
  by_cases h1 : 0 <= B.lackIn T false i
  ·rw [if_pos h1]
   exact ⟨fun h => by omega, fun h => by have := (h.2 i (nR _) (by omega)).1; omega⟩
  ·rw [if_neg h1, claim_one B T n (i + 1)]
   by_cases h2 : 0 <= B.lackIn T true i
   ·rw [if_pos h2]
    exact ⟨fun h => by omega, fun h => by have := (h.2 i (nR _) (by omega)).2; omega⟩
   ·rw [if_neg h2]
    refine ⟨fun h => ⟨h.1, fun k a b => ?_⟩, fun h => ⟨h.1, fun k a b => h.2 k (by omega) (by omega)⟩⟩
    by_cases e : k = i
    ·subst e; omega
    ·exact h.2 k (by omega) (by omega)
theorem claim_two (B : Bk) (T : Nat -> Int) : ∀ n i c, c ≠ 2 -> (claimFrom B T n i c = 2 ↔ ∃ h, i <= h /\ h < i + n /\ 0 <= B.lackIn T false h)
 | 0, i, c, hc => by simp only [claimFrom]; exact ⟨fun h => absurd h hc, fun ⟨h, a, b, _⟩ => by omega⟩
 | n + 1, i, c, hc => by
  unfold claimFrom
  by_cases h1 : 0 <= B.lackIn T false i
  ·rw [if_pos h1]
   exact ⟨fun _ => ⟨i, nR _, by omega, h1⟩, fun _ => rfl⟩
  ·rw [if_neg h1, claim_two B T n (i + 1) _ (by split <;> omega)]
   refine ⟨fun ⟨h, a, b, q⟩ => ⟨h, by omega, by omega, q⟩, fun ⟨h, a, b, q⟩ => ⟨h, ?_, by omega, q⟩⟩
   by_cases e : h = i
   ·subst e; exact absurd q h1
   ·omega
theorem claim_mem (B : Bk) (T : Nat -> Int) : ∀ n i c, (c = 0 \/ c = 1) -> (claimFrom B T n i c = 0 \/ claimFrom B T n i c = 1 \/ claimFrom B T n i c = 2)
 | 0, i, c, hc => by simp only [claimFrom]; omega
 | n + 1, i, c, hc => by
  unfold claimFrom
  by_cases h1 : 0 <= B.lackIn T false i
  ·rw [if_pos h1]; omega
  ·rw [if_neg h1]
   exact claim_mem B T n (i + 1) _ (by split <;> omega)
theorem costTo_le {st : List (Int × Int)} (hp : ∀ x ∈ st, 0 <= x.2 /\ x.2 <= 99) (m : Nat) : ∀ n, m <= n -> (costTo st m).1 <= (costTo st n).1
  | 0, h => by have : m = 0 := by omega
               subst this; exact Int.le_refl _
  | n + 1, h => by
    by_cases e : m = n + 1
    · subst e; exact Int.le_refl _
    · have ih := costTo_le hp m n (by omega)
      have := price_bd hp (adv st ((n : Int) + 1) (st.length - (costTo st n).2) (costTo st n).2)
      conv => rhs; unfold costTo
      dsimp only
      omega
theorem costOf_zero (B : Bk) (i : Int) : costOf B i 0 = 0 := rfl
theorem prices_of {B : Bk} (hG : Good B) (i : Nat) : ∀ x ∈ ((B.links[i]?).map (·.steps)).getD [], 0 <= x.2 /\ x.2 <= 99 := by
 cases e : B.links[i]? with
 | none => intro x hx; simp at hx
 | some L => exact steps_price ((hG.links i L e).2.2.2)
theorem costOf_mono {B : Bk} (hG : Good B) (i : Nat) {s t : Int} (h : s <= t) : costOf B i s <= costOf B i t := by
 unfold costOf
 exact costTo_le (prices_of hG _) _ _ (by omega)
theorem costUp_mono {B : Bk} (hG : Good B) {T T' : Nat -> Int} (h : ∀ k, T k <= T' k) : ∀ n, costUp B T n <= costUp B T' n
 | 0 => Int.le_refl _
 | n + 1 => by
  have := costUp_mono hG h n
  have := costOf_mono hG n (h n)
  unfold costUp
  omega
def oneT (i : Nat) (v : Int) : Nat -> Int := fun k => if k = i then v else 0
theorem costUp_one (B : Bk) (i : Nat) (v : Int) : ∀ n, costUp B (oneT i v) n = if i < n then costOf B i v else 0
 | 0 => rfl
 | n + 1 => by
  unfold costUp
  rw [costUp_one B i v n]
  unfold oneT
  by_cases e : n = i
  ·subst e
   rw [if_pos rfl, if_neg (Nat.lt_irrefl _), if_pos (Nat.lt_succ_self _)]
   omega
  ·rw [if_neg e, costOf_zero]
   by_cases h : i < n
   ·rw [if_pos h, if_pos (by omega)]; omega
   ·rw [if_neg h, if_neg (by omega)]; omega
structure OwnI (w : World) (b : Nat) (xs : List Int) : Prop where
 lt : b < w.heap.size
 sl : SlI w (some ⟨b, 0, none⟩) xs
 free : ∀ j, w.frozen? ⟨b, j, none⟩ = false
theorem OwnI.set {w : World} {b k : Nat} {xs : List Int} (h : OwnI w b xs) (hk : k < xs.length) (y : Int) : OwnI (w.setCell ⟨b, k, none⟩ (.int .i64 y)) b (xs.set k y) := by
 refine ⟨by rw [World.size_setCell]; exact h.lt, fun i x hx => ⟨b, 0, rfl, ?_⟩, fun j => by rw [World.frozen?_setCell]; exact h.free j⟩
 rw [Nat.zero_add]
 by_cases e : i = k
 ·subst e
  rw [List.getElem?_set_self hk] at hx
  cases hx
  obtain ⟨_, _, e2, h0⟩ := h.sl i _ (lG hk)
  cases e2
  rw [Nat.zero_add] at h0
  exact World.cell?_setCell_same _ _ _ h0
 ·rw [List.getElem?_set_ne (Ne.symm e)] at hx
  obtain ⟨_, _, e2, h0⟩ := h.sl i x hx
  cases e2
  rw [Nat.zero_add] at h0
  rw [World.cell?_setCell_other _ _ _ _ (by intro e3; cases e3; exact e rfl)]
  exact h0
theorem SlI.far {w : World} {b o : Nat} {xs : List Int} {sa : Option Addr} {v : Value} (h : SlI w sa xs) (hb : ∀ b' o', sa = some ⟨b', o', none⟩ -> b' ≠ b) : SlI (w.setCell ⟨b, o, none⟩ v) sa xs := fun i x hx => by
 obtain ⟨b', o', e, h0⟩ := h i x hx
 exact ⟨b', o', e, by rw [World.cell?_setCell_far _ _ _ _ (Ne.symm (hb _ _ e))]; exact h0⟩
theorem own_of {w : World} {n : Nat} {v : Value} {xs : List Int} (h : w.ownsRow n 3 1 v xs.length (ints xs)) (h1 : 1 <= xs.length) :
  ∃ b cap, v = .slice (some ⟨b, 0, none⟩) xs.length cap /\ n <= b /\ OwnI w b xs /\ xs.length <= cap /\ cap <= maxLen := by
 obtain ⟨b, cap, e, h2, h3, h4, h5, h6⟩ := sl_of_own h h1
 refine ⟨b, cap, e, h2, ⟨h3, h4, fun j => ?_⟩, h5, h6⟩
 obtain ⟨_, ⟨_, h0⟩ | ⟨b', cap', cur, e', hb, hrow, _⟩⟩ := h
 ·omega
 ·rw [e] at e'
  cases e'
  simp [World.frozen?, hrow]
noncomputable def mtBody : Code := Tryd.f8.body.getD .skip
noncomputable def mtIf : Code := match mtBody with
 | .seq _ (.seq (.seq _ c) _) => c
 | _ => .skip
noncomputable def mtRest : Code := match mtBody with
 | .seq _ (.seq _ c) => c
 | _ => .skip
noncomputable def mt7 : Array Oper := match mtRest with
 | .seq _ (.seq _ (.seq _ (.seq _ (.seq (.region _ o _) _)))) => o
 | _ => #[]
noncomputable def mtR8 : Code := match mtRest with
 | .seq _ (.seq _ (.seq _ (.seq _ (.seq _ c)))) => c
 | _ => .skip
set_option maxHeartbeats 2000000 in
theorem mt_head (V : BkV) (B : Bk) (sa : Option Addr) (pn cap : Nat) (q : Int) (w : World) (hs : BkRaw w V B) :
  Comes tP [.code mtBody] (fun it a u => ∃ b1, it = [.code mtIf, .code mtRest] /\ Sl a 139 ((25, .bool (!fitB B)) :: [(1, .slice sa pn cap), (2, .int .u8 q), (3, .pointer (some ⟨b1, 0, none⟩))]) /\ (u.cell? ⟨b1, 0, none⟩ = some (.int .i64 B.hours) /\ u.cell? ⟨b1, 1, none⟩ = some (.slice V.ta B.towns.length V.tc) /\ u.cell? ⟨b1, 2, none⟩ = some (.slice V.la B.links.length V.lc) /\ u.cell? ⟨b1, 3, none⟩ = some (.slice V.pa B.pairs.length V.pc)) /\ Below w.heap.size w u)
   ⟨(V.val B :: .slice sa pn cap :: .int .u8 q :: List.replicate 136 undef).toArray, []⟩ w := by
 obtain ⟨ta, la, pa, tc, lc, pc⟩ := V
 have hb0 : Below w.heap.size w (w.alloc (.cells #[.int .i64 B.hours, .slice ta B.towns.length tc, .slice la B.links.length lc, .slice pa B.pairs.length pc] 26)) := (bR _ _).alloc (nR _) _
 have HC := lH (c30 ⟨ta, la, pa, tc, lc, pc⟩ B _ (hs.below hb0 (nR _)))
 have HB0 := lH hb0
 clear hs hb0
 simp only [List.replicate, BkV.val]
 simp only [mtBody, Tryd.f8, Option.getD_some]
 refine comes_push (comes_code ?_)
 go_wp2
 refine comes_push (comes_push (comes_code ?_))
 go_wp2_with fail
 refine HC.out.mono ?_
 rintro e w1 ⟨rfl, hb1⟩
 have HB1 := lH (HB0.out.trans (hb1.mono (by simp)))
 have k0 : w1.cell? ⟨w.heap.size, 0, none⟩ = some (.int .i64 B.hours) := by rw [(bcell hb1).1 _ _ (by simp)]; go_simp
 have k1 : w1.cell? ⟨w.heap.size, 1, none⟩ = some (.slice ta B.towns.length tc) := by rw [(bcell hb1).1 _ _ (by simp)]; go_simp
 have k2 : w1.cell? ⟨w.heap.size, 2, none⟩ = some (.slice la B.links.length lc) := by rw [(bcell hb1).1 _ _ (by simp)]; go_simp
 have k3 : w1.cell? ⟨w.heap.size, 3, none⟩ = some (.slice pa B.pairs.length pc) := by rw [(bcell hb1).1 _ _ (by simp)]; go_simp
 clear hb1
 go_wp2
 exact comes_here ⟨w.heap.size, rfl, ⟨rfl, rfl, rfl, rfl, rfl, rfl, trivial⟩, ⟨k0, k1, k2, k3⟩, HB1.out⟩
def moreOf (xs : List Int) (k : Nat) : List Int := xs.set k (min 20 (trk xs k + 1))
def MtQ (w : World) (V : BkV) (B : Bk) (b1 : Nat) (xs : List Int) (k : Nat) (it : List Item) (a : Act) (u : World) : Prop :=
 ∃ lb lc' mb mc, it = [.inRegion mt7 [2, 3, 4, 5, 6, 7], .code mtR8] /\ Sl a 139 [(7, .slice (some ⟨lb, 0, none⟩) B.links.length lc'), (9, .slice (some ⟨mb, 0, none⟩) B.links.length mc), (3, .pointer (some ⟨b1, 0, none⟩)), (48, V.val B), (49, .slice (some ⟨lb, 0, none⟩) B.links.length lc')] /\ SlI u (some ⟨lb, 0, none⟩) xs /\ SlI u (some ⟨mb, 0, none⟩) (moreOf xs k) /\ Below w.heap.size w u
set_option maxHeartbeats 4000000 in
theorem mt_go (V : BkV) (B : Bk) (ps : List Int) (sa : Option Addr) (cap b1 : Nat) (q : Int) (hq : 0 <= q /\ q <= 255) (a : Act) (w : World) (hB : LawBk w b1 V B) (hG : Good B) (hs : SlH w sa ps) (hp : ∀ x ∈ ps, 0 <= x /\ x <= 65535) (hl : ps.length <= maxLen) (hS : Sl a 139 [(1, .slice sa ps.length cap), (2, .int .u8 q), (3, .pointer (some ⟨b1, 0, none⟩))]) :
  Comes tP [.code mtRest] (MtQ w V B b1 (trunksOf ps B.links.length) (q % B.links.length).toNat) a w := by
 obtain ⟨ta, la, pa, tc, lc, pc⟩ := V
 have hF := hG.fine
 have hll := hF.links
 have htt := hF.towns
 unfold Bk.spokes at hll
 have HB : Hid (∀ u, Below w.heap.size w u -> LawBk u b1 ⟨ta, la, pa, tc, lc, pc⟩ B) := lH fun u hu => hB.below hu
 obtain ⟨e0, e1, e2, e3, _, _, _⟩ := hB
 have hz := wBk _ _ e0
 have HC := lH (c31 B.hours ta B.towns.length tc la B.links.length lc pa B.pairs.length pc ps sa cap w hs hp hl (by omega))
 have Hlen := lH (trunksOf_len ps B.links.length)
 have Hok := lH (trk_pos (trunksOf_ok (ps := ps) B.links.length))
 generalize trunksOf ps B.links.length = xs at *
 clear hs hp hl hG hF
 obtain ⟨t, rfl, hT⟩ := hS.lit
 simp only [SlT] at hT
 obtain ⟨h1, h2, h3, _⟩ := hT
 simp only [up, Nat.reduceAdd, h1, h2, h3]
 clear h1 h2 h3 hS
 simp only [mtRest, mtBody, Tryd.f8, Option.getD_some]
 refine comes_push (comes_code ?_)
 go_wp2_with fail
 refine HC.out.mono ?_
 rintro e w1 ⟨v, rfl, hown, hb1⟩
 rw [<- Hlen.out] at hown
 obtain ⟨lb, lcp, rfl, hlb, hO, hc1, hc2⟩ := own_of hown (by rw [Hlen.out]; omega)
 rw [Hlen.out]
 have HO := lH hO
 have HB1 := lH hb1
 have hlen := Hlen.out
 clear hown hb1 hO e0 e1 e2 e3
 go_wp2
 have hn1 : 1 <= B.links.length := by omega
 obtain ⟨k, hk⟩ : ∃ k : Nat, (k : Int) = q % B.links.length := ⟨(q % B.links.length).toNat, Int.toNat_of_nonneg (Int.emod_nonneg q (show (B.links.length : Int) ≠ 0 by omega))⟩
 have hkn : k < B.links.length := by have := Int.emod_lt_of_pos q (show (0 : Int) < (B.links.length : Int) by omega); omega
 have HK : Hid ((q % B.links.length).toNat = k) := lH (by rw [<- hk]; exact Int.toNat_natCast k)
 have hrem : Int.tmod q (B.links.length : Int) = (k : Int) := by rw [hk]; exact Int.tmod_eq_emod_of_nonneg hq.1
 have hnz : ((B.links.length : Int) == 0) = false := by rw [beq_eq_false_iff_ne]; omega
 have hwq : IntKind.wrap .i64 q = q := IntWalk.i64_in _ (by omega)
 have hwk : IntKind.wrap .i64 (k : Int) = (k : Int) := IntWalk.i64_in _ (by omega)
 have hxk : xs[k]? = some (trk xs k) := by
  rw [lG (by omega)]
  unfold trk
  rw [lD, lG (by omega)]; rfl
 have Hxk := lH hxk
 rw [HK.out]
 clear hk hxk
 refine comes_push (comes_code ?_)
 go_wp2
 obtain ⟨i0, hi, hz0, hz1, hz2⟩ := info_parts info3
 have hown : (w1.alloc (.cells #[] 3)).ownsRow w1.heap.size 3 1 (.slice (some ⟨w1.heap.size, 0, none⟩) 0 0) 0 [] := ⟨rfl, .inr ⟨w1.heap.size, 0, #[], rfl, nR _, (MapKept.heap_alloc w1 _).1, nR _, Nat.zero_le _, rfl, rfl⟩⟩
 have Hown := lH hown
 have Hnews := lH (news_of (HO.out.sl.below ((bR w1.heap.size w1).alloc (nR _) (.cells #[] 3)) (nR _)))
 have Hc := lH (And.intro hc1 hc2)
 clear hown hrem hnz hwq hc1 hc2
 refine comes_push (comes_code ?_)
 go_wp2_with (at_builtin; refine wpList_append_own _ rfl _ _ 27 rfl w1.heap.size 3 i0 (.int .i64 0) 1 8 Tryd.underlying27 hi hz0 hz1 hz2 rfl (by decide) _ _ _ rfl Hown.out ⟨lb, 0, none⟩ B.links.length lcp (ints xs) rfl (by simp [ints, hlen]) Hnews.out ints_one (by unfold maxLen; omega) (by omega) (by simp) ?_; intro v w2 hown1 hgrow _)
 have hb12 : Below w1.heap.size w1 w2 := ((bR w1.heap.size w1).alloc (nR _) (.cells #[] 3)).grown hgrow (by simp) (fun j hj => by cases hj; exact nR _)
 have hown2 : w2.ownsRow w1.heap.size 3 1 v xs.length (ints xs) := by rw [hlen]; simpa using hown1
 obtain ⟨mb, mcp, rfl, hmb, hO2, _, _⟩ := own_of hown2 (by omega)
 rw [hlen]
 have HO2 := lH hO2
 have HB12 := lH hb12
 have HLM : Hid (lb ≠ mb /\ w1.heap.size <= mb) := lH ⟨by have := HO.out.lt; omega, hmb⟩
 clear hown1 hgrow hb12 hown2 hO2 hmb
 go_wp2
 have hb := Hok.out k
 have hc : w2.cell? ⟨mb, k, none⟩ = some (.int .i64 (trk xs k)) := by
  obtain ⟨_, _, e2, h0⟩ := HO2.out.sl k _ Hxk.out
  cases e2
  rwa [Nat.zero_add] at h0
 have hf := HO2.out.free k
 have HM : Hid (moreOf xs k = xs.set k (min 20 (trk xs k + 1))) := lH rfl
 have Hb := lH hb
 generalize trk xs k = x at *
 have hwx : IntKind.wrap .i64 (x + 1) = x + 1 := IntWalk.i64_in _ (by omega)
 by_cases h20 : 20 <= x + 1
 ·skip
  have hy : min 20 (x + 1) = 20 := by omega
  rw [hy] at HM
  clear hy
  refine comes_push (comes_code ?_)
  go_wp2
  generalize hW3 : w2.setCell ⟨mb, k, none⟩ (.int .i64 (20)) = W3
  have hb3 : Below w.heap.size w W3 := by
   subst hW3
   have hm := HLM.out.2
   have hs1 := HB1.out.size
   exact (HB1.out.trans (HB12.out.mono hs1)).setCell (p := ⟨mb, k, none⟩) (Nat.le_trans hs1 hm) _
  have hl3 : SlI W3 (some ⟨lb, 0, none⟩) xs := by
   subst hW3
   exact (HO.out.sl.below HB12.out (nR _)).far fun _ _ e => by cases e; exact HLM.out.1
  have hm3 : SlI W3 (some ⟨mb, 0, none⟩) (moreOf xs k) := by
   subst hW3
   rw [HM.out]
   exact (HO2.out.set (by omega) _).sl
  have hB3 := HB.out W3 hb3
  obtain ⟨e0, e1, e2, e3, _, _, _⟩ := hB3
  clear hW3 hc hf HO HO2 HB HB1 HB12
  refine comes_push (comes_reg ?_)
  refine comes_val rfl rfl (v := .agg #[.int .i64 B.hours, .slice ta B.towns.length tc, .slice la B.links.length lc, .slice pa B.pairs.length pc]) (w1 := W3) (by go_simp) ?_
  refine comes_val rfl rfl (v := .slice (some ⟨lb, 0, none⟩) B.links.length lcp) (w1 := W3) (by go_simp) ?_
  exact comes_here ⟨lb, lcp, mb, mcp, rfl, ⟨rfl, rfl, rfl, rfl, rfl, rfl, rfl, trivial⟩, hl3, hm3, hb3⟩
 ·have hy : min 20 (x + 1) = x + 1 := by omega
  rw [hy] at HM
  clear hy
  refine comes_push (comes_code ?_)
  go_wp2
  generalize hW3 : w2.setCell ⟨mb, k, none⟩ (.int .i64 (x + 1)) = W3
  have hb3 : Below w.heap.size w W3 := by
   subst hW3
   have hm := HLM.out.2
   have hs1 := HB1.out.size
   exact (HB1.out.trans (HB12.out.mono hs1)).setCell (p := ⟨mb, k, none⟩) (Nat.le_trans hs1 hm) _
  have hl3 : SlI W3 (some ⟨lb, 0, none⟩) xs := by
   subst hW3
   exact (HO.out.sl.below HB12.out (nR _)).far fun _ _ e => by cases e; exact HLM.out.1
  have hm3 : SlI W3 (some ⟨mb, 0, none⟩) (moreOf xs k) := by
   subst hW3
   rw [HM.out]
   exact (HO2.out.set (by omega) _).sl
  have hB3 := HB.out W3 hb3
  obtain ⟨e0, e1, e2, e3, _, _, _⟩ := hB3
  clear hW3 hc hf HO HO2 HB HB1 HB12
  refine comes_push (comes_reg ?_)
  refine comes_val rfl rfl (v := .agg #[.int .i64 B.hours, .slice ta B.towns.length tc, .slice la B.links.length lc, .slice pa B.pairs.length pc]) (w1 := W3) (by go_simp) ?_
  refine comes_val rfl rfl (v := .slice (some ⟨lb, 0, none⟩) B.links.length lcp) (w1 := W3) (by go_simp) ?_
  exact comes_here ⟨lb, lcp, mb, mcp, rfl, ⟨rfl, rfl, rfl, rfl, rfl, rfl, rfl, trivial⟩, hl3, hm3, hb3⟩
noncomputable def mt8 : Array Oper := match mtR8 with
 | .seq (.region _ o _) _ => o
 | _ => #[]
noncomputable def mtR9 : Code := match mtR8 with
 | .seq _ c => c
 | _ => .skip
noncomputable def mtIf2 : Code := match mtR9 with
 | .seq _ (.seq _ (.seq (.seq _ c) _)) => c
 | _ => .skip
noncomputable def mtR13 : Code := match mtR9 with
 | .seq _ (.seq _ (.seq _ c)) => c
 | _ => .skip
noncomputable def mt23 : Array Oper := match mtR13 with
 | .seq _ (.seq _ (.seq (.region _ o _) _)) => o
 | _ => #[]
theorem cost_ok {B : Bk} {xs : List Int} (hr : rentedA B xs true = 0) (V : BkV) (b cap : Nat) (w : World) (hs : BkIn w V B) (hv : Vars w) (hx : SlI w (some ⟨b, 0, none⟩) xs) (hl : xs.length = B.links.length) (h6 : B.links.length <= 6) :
  Calls tP 40 #[V.val B, .slice (some ⟨b, 0, none⟩) B.links.length cap] w fun e w' => e = .returned (.tuple #[.int .i64 (costUp B (trk xs) B.links.length), .int .i64 0]) /\ Below w.heap.size w w' := by
 have h := c40 V B xs (some ⟨b, 0, none⟩) cap w hs hv hx (by omega)
 rw [hl] at h
 refine h.mono ?_
 rintro e w' ⟨rfl, hb⟩
 refine ⟨?_, hb⟩
 unfold costV
 rw [if_pos hr, hl]
def MtD (w : World) (B : Bk) (b1 lb lc : Nat) (xs : List Int) (it : List Item) (a : Act) (u : World) : Prop :=
 it = [.code mtIf2, .code mtR13] /\ Sl a 139 [(105, .bool false), (7, .slice (some ⟨lb, 0, none⟩) B.links.length lc), (3, .pointer (some ⟨b1, 0, none⟩)), (14, .int .i64 (costUp B (trk xs) B.links.length))] /\ Below w.heap.size w u
set_option maxHeartbeats 4000000 in
theorem mt_cmp (V : BkV) (B : Bk) (b1 lb lc mb mc : Nat) (xs ys : List Int) (c d : Int) (hc : c = 0 \/ c = 1 \/ c = 2) (hd : d = 0 \/ d = 1 \/ d = 2) (h1 : c = 1 -> d = 1) (h2 : c = 0 -> d ≠ 2) (a : Act) (w : World) (hB : LawBk w b1 V B) (h6 : B.links.length <= 6)
    (hx : SlI w (some ⟨lb, 0, none⟩) xs) (hy : SlI w (some ⟨mb, 0, none⟩) ys) (hxl : xs.length = B.links.length) (hyl : ys.length = B.links.length) (hrx : rentedA B xs true = 0) (hry : rentedA B ys true = 0) (hm : costUp B (trk xs) B.links.length <= costUp B (trk ys) B.links.length) (hS : Sl a 139 [(13, .int .i64 0), (12, .int .i64 d), (58, .int .i64 0), (57, .int .i64 d), (53, .tuple #[.int .i64 d, .int .i64 0]), (56, .tuple #[.int .i64 d, .int .i64 0]), (55, .slice (some ⟨mb, 0, none⟩) B.links.length mc), (54, V.val B), (11, .int .i64 0), (10, .int .i64 c), (52, .int .i64 0), (51, .int .i64 c), (47, .tuple #[.int .i64 c, .int .i64 0]), (50, .tuple #[.int .i64 c, .int .i64 0]), (7, .slice (some ⟨lb, 0, none⟩) B.links.length lc), (9, .slice (some ⟨mb, 0, none⟩) B.links.length mc), (3, .pointer (some ⟨b1, 0, none⟩))]) :
    Comes tP [.code mtR9] (MtD w B b1 lb lc xs) a w := by
  have HB : Hid (∀ u, Below w.heap.size w u -> LawBk u b1 V B) := lH fun u hu => hB.below hu
  have HX : Hid (∀ u, Below w.heap.size w u -> Calls tP 40 #[V.val B, .slice (some ⟨lb, 0, none⟩) B.links.length lc] u fun e w' => e = .returned (.tuple #[.int .i64 (costUp B (trk xs) B.links.length), .int .i64 0]) /\ Below u.heap.size u w') := lH fun u hu => cost_ok hrx V lb lc u (HB.out u hu).book (HB.out u hu).vars (hx.below hu (nR _)) hxl h6
  have HY : Hid (∀ u, Below w.heap.size w u -> Calls tP 40 #[V.val B, .slice (some ⟨mb, 0, none⟩) B.links.length mc] u fun e w' => e = .returned (.tuple #[.int .i64 (costUp B (trk ys) B.links.length), .int .i64 0]) /\ Below u.heap.size u w') := lH fun u hu => cost_ok hry V mb mc u (HB.out u hu).book (HB.out u hu).vars (hy.below hu (nR _)) hyl h6
  have HQ : Hid (∀ it a u, it = [.code mtIf2, .code mtR13] /\ Sl a 139 [(105, .bool false), (7, .slice (some ⟨lb, 0, none⟩) B.links.length lc), (3, .pointer (some ⟨b1, 0, none⟩)), (14, .int .i64 (costUp B (trk xs) B.links.length))] /\ Below w.heap.size w u -> MtD w B b1 lb lc xs it a u) := lH fun _ _ _ h => h
  generalize MtD w B b1 lb lc xs = Q at *
  clear hx hy hxl hyl hrx hry h6
  obtain ⟨ta, la, pa, tc, lc', pc⟩ := V
  obtain ⟨e0, e1, e2, e3, _, _, _⟩ := hB
  generalize costUp B (trk xs) B.links.length = n1 at *
  generalize costUp B (trk ys) B.links.length = m1 at *
  have hz := wBk _ _ e0
  obtain ⟨t, rfl, hT⟩ := hS.lit
  simp only [SlT] at hT
  obtain ⟨h13, h12, h58, h57, h53, h56, h55, h54, h11, h10, h52, h51, h47, h50, h7, h9, h3, _⟩ := hT
  simp only [up, Nat.reduceAdd, h13, h12, h58, h57, h53, h56, h55, h54, h11, h10, h52, h51, h47, h50, h7, h9, h3]
  clear h13 h12 h58 h57 h53 h56 h55 h54 h11 h10 h52 h51 h47 h50 h7 h9 h3 hS
  simp only [mtR9, mtR8, mtRest, mtBody, Tryd.f8, Option.getD_some]
  refine comes_push (comes_code ?_)
  go_wp2_with fail
  refine (HX.out w (bR _ _)).mono ?_
  rintro e w1 ⟨rfl, hb1⟩
  have HB1 := lH hb1
  have hB1 := HB.out w1 hb1
  clear hb1 e0 e1 e2 e3 hz
  obtain ⟨e0, e1, e2, e3, _, _, _⟩ := hB1
  have hz := wBk _ _ e0
  go_wp2
  refine comes_push (comes_code ?_)
  go_wp2_with fail
  refine (HY.out w1 HB1.out).mono ?_
  rintro e w2 ⟨rfl, hb2⟩
  have HB2 := lH (HB1.out.trans (hb2.mono HB1.out.size))
  clear hb2 e0 e1 e2 e3 hz HX HY HB HB1
  have HH := lH (And.intro h1 (And.intro h2 hm))
  clear h1 h2 hm
  go_wp2
  refine comes_push (comes_push (comes_code ?_))
  obtain rfl | rfl | rfl := hc
  all_goals obtain rfl | rfl | rfl := hd
  all_goals first
    | exact absurd rfl (HH.out.2.1 rfl)
    | (exfalso; have := HH.out.1 rfl; omega)
    | (have hmn : ¬ m1 < n1 := by have := HH.out.2.2; omega
       clear HH
       go_wp2
       exact comes_here (HQ.out _ _ _ ⟨rfl, ⟨rfl, rfl, rfl, rfl, rfl, rfl, trivial⟩, HB2.out⟩))
theorem comes_if {P : Program} {Q : List Item -> Act -> World -> Prop} {a : Act} {w : World} {it : List Item} {c : Operand} {x y : Code} {t : Bool} (hc : a.eval c = .bool t) (h : Comes P (.code (if t then x else y) :: it) Q a w) : Comes P (.code (.cond c x y) :: it) Q a w := comes_step (fun _ _ _ => step_cond hc) h
theorem mk27 (n : Nat) (h1 : 1 <= n) (h6 : n <= 6) (w : World) : (Instr.makeSlice 27 (.int .i64 (n : Int)) (.int .i64 (n : Int))).run tP w = .ok (.slice (some ⟨w.heap.size, 0, none⟩) n n) (w.alloc (.cells (Array.replicate n (.int .i64 0)) 3)) := by
 obtain rfl | rfl | rfl | rfl | rfl | rfl : n = 1 \/ n = 2 \/ n = 3 \/ n = 4 \/ n = 5 \/ n = 6 := by omega
 all_goals kernel_rfl
theorem own_zero (n : Nat) (w : World) : OwnI (w.alloc (.cells (Array.replicate n (.int .i64 0)) 3)) w.heap.size (List.replicate n 0) := by
 have hr : (w.alloc (.cells (Array.replicate n (.int .i64 0)) 3)).heap[w.heap.size]? = some (.cells (Array.replicate n (.int .i64 0)) 3 (0, 0)) := (MapKept.heap_alloc w _).1
 refine ⟨by simp, fun i x hx => ⟨w.heap.size, 0, rfl, ?_⟩, fun j => by unfold World.frozen?; dsimp only; rw [hr]; simp⟩
 have hi := (lS.1 hx).1
 have hx0 : x = 0 := by
  have := (lS.1 hx).2
  rw [List.getElem_replicate] at this
  exact this.symm
 simp only [List.length_replicate] at hi
 subst hx0
 unfold World.cell?
 dsimp only
 rw [hr]
 simp [hi]
theorem trk_one (n k : Nat) (x : Int) (hk : k < n) : trk ((List.replicate n (0 : Int)).set k x) = oneT k x := by
 funext j
 unfold trk oneT
 rw [lD]
 by_cases e : j = k
 ·subst e
  rw [List.getElem?_set_self (by simpa using hk), if_pos rfl]; rfl
 ·rw [List.getElem?_set_ne (Ne.symm e), if_neg e]
  cases h : (List.replicate n (0 : Int))[j]? with
  | none => rfl
  | some y =>
   have := (lS.1 h).2
   rw [List.getElem_replicate] at this
   simp [<- this]
theorem badTrunk_one {n k : Nat} {x : Int} (hx : 0 <= x /\ x <= 20) : badTrunk ((List.replicate n (0 : Int)).set k x) = false := by
 unfold badTrunk
 rw [List.any_eq_false]
 intro y hy
 rcases List.mem_or_eq_of_mem_set hy with h | h
 ·have := List.eq_of_mem_replicate h
  subst this
  simp [btw]
 ·subst h
  simp [btw]
  omega
def MtE (w : World) (it : List Item) (a : Act) (u : World) : Prop := it = [.inRegion mt23 [4, 5, 6], .code .ret] /\ Sl a 139 [(136, .bool true)] /\ Below w.heap.size w u
set_option maxHeartbeats 1000000 in
theorem mt_sum (V : BkV) (B : Bk) (b1 lb lc : Nat) (xs : List Int) (a : Act) (w : World) (hB : LawBk w b1 V B) (ha : B.alarm = 0) (hG : Good B) (hx : SlI w (some ⟨lb, 0, none⟩) xs) (hxl : xs.length = B.links.length) (hbt : badTrunk xs = false) (hS : Sl a 139 [(105, .bool false), (7, .slice (some ⟨lb, 0, none⟩) B.links.length lc), (3, .pointer (some ⟨b1, 0, none⟩)), (14, .int .i64 (costUp B (trk xs) B.links.length))]) :
  Comes tP [.code mtIf2, .code mtR13] (MtE w) a w := by
 have hll := hG.fine.links
 have htt := hG.fine.towns
 unfold Bk.spokes at hll
 have HB : Hid (∀ u, Below w.heap.size w u -> LawBk u b1 V B) := lH fun u hu => hB.below hu
 have Hok := lH (trk_pos hbt)
 have HO : Hid (∀ k b u, k < B.links.length -> Below w.heap.size w u -> SlI u (some ⟨b, 0, none⟩) ((List.replicate B.links.length 0).set k (trk xs k)) -> Calls tP 40 #[V.val B, .slice (some ⟨b, 0, none⟩) B.links.length B.links.length] u fun e w' => e = .returned (.tuple #[.int .i64 (costOf B (k : Int) (trk xs k)), .int .i64 0]) /\ Below u.heap.size u w') := lH fun k b u hk hu hs => by
  have hr : rentedA B ((List.replicate B.links.length 0).set k (trk xs k)) true = 0 := by
   unfold rentedA
   rw [if_pos ha, if_pos (by simp), badTrunk_one (Hok.out k)]; rfl
  have h := cost_ok hr V b B.links.length u (HB.out u hu).book (HB.out u hu).vars hs (by simp) (by omega)
  rw [trk_one _ _ _ hk, costUp_one, if_pos hk] at h
  exact h
 have Hbd := lH (fun k => costUp_bd hG (T := trk xs) (fun j => by have := Hok.out j; omega) k)
 have Hcb := lH (fun k : Nat => cost_bd hG (k : Int) (trk xs k) (by have := (Hok.out k).2; omega))
 have HX := lH hx
 have HU : Hid (∀ k, costUp B (trk xs) (k + 1) = costUp B (trk xs) k + costOf B (k : Int) (trk xs k)) := lH fun _ => rfl
 have Hlen := lH hxl
 have HQ : Hid (∀ it a u, it = [.inRegion mt23 [4, 5, 6], .code .ret] /\ Sl a 139 [(136, .bool true)] /\ Below w.heap.size w u -> MtE w it a u) := lH fun _ _ _ h => h
 generalize MtE w = Q at *
 clear hB hx hxl hbt hG ha
 have hn1 : 1 <= B.links.length := by omega
 have hn6 : B.links.length <= 6 := hll.2
 have hmk := mk27 B.links.length hn1 hn6
 obtain ⟨ta, la, pa, tc, lc', pc⟩ := V
 obtain ⟨t, rfl, hT⟩ := hS.lit
 simp only [SlT] at hT
 obtain ⟨h105, h7, h3, h14, _⟩ := hT
 simp only [up, Nat.reduceAdd, h105, h7, h3, h14]
 clear h105 h7 h3 h14 hS
 simp only [mtIf2, mtR13, mtR9, mtR8, mtRest, mtBody, Tryd.f8, Option.getD_some]
 refine comes_if (t := false) rfl ?_
 rw [if_neg (by decide)]
 refine comes_code ?_
 go_wp2
 refine comes_push (comes_code ?_)
 go_wp2
 refine comes_push (comes_code ?_)
 go_wp2_with fail
 go_loopw [18, 19] (fun s i wr => ∃ k : Nat, k <= B.links.length /\ i = .int .i64 (k : Int) /\ s = .int .i64 (costUp B (trk xs) k) /\ Below w.heap.size w wr) (fun _ i _ => B.links.length - (intOf i).toNat)
 case atStart => exact ⟨0, Nat.zero_le _, rfl, rfl, bR _ _⟩
 case round =>
  obtain ⟨k, hk, rfl, rfl, hb⟩ := hrel
  have Hb := lH hb
  have hBk := HB.out wr hb
  clear hb
  obtain ⟨e0, e1, e2, e3, _, _, _⟩ := hBk
  have hz := wBk _ _ e0
  by_cases hlt : k < B.links.length
  ·have hxk : xs[k]? = some (trk xs k) := by
    have := Hlen.out
    rw [lG (by omega)]
    unfold trk
    rw [lD, lG (by omega)]; rfl
   have hc : wr.cell? ⟨lb, k, none⟩ = some (.int .i64 (trk xs k)) := by
    obtain ⟨_, _, e, h0⟩ := (HX.out.below Hb.out (nR _)) k _ hxk
    cases e
    rwa [Nat.zero_add] at h0
   have hlz := wBk _ _ hc
   have hO0 := own_zero B.links.length wr
   have d0 : (wr.alloc (.cells (Array.replicate B.links.length (.int .i64 0)) 3)).cell? ⟨wr.heap.size, k, none⟩ = some (.int .i64 0) := by
    obtain ⟨_, _, e, h0⟩ := hO0.sl k 0 (by rw [List.getElem?_replicate, if_pos hlt])
    cases e
    rwa [Nat.zero_add] at h0
   have d1 := hO0.free k
   have HO1 := lH (hO0.set (k := k) (by simpa using hlt) (trk xs k))
   have hbW : Below wr.heap.size wr ((wr.alloc (.cells (Array.replicate B.links.length (.int .i64 0)) 3)).setCell ⟨wr.heap.size, k, none⟩ (.int .i64 (trk xs k))) := ((bR _ _).alloc (nR _) _).setCell (p := ⟨wr.heap.size, k, none⟩) (nR _) _
   have HbW := lH (Hb.out.trans (hbW.mono Hb.out.size))
   have hBW := HB.out _ HbW.out
   have HOk := lH (HO.out k wr.heap.size _ hlt HbW.out HO1.out.sl)
   have hb1 := Hbd.out k
   have hb2 := Hcb.out k
   have Hu := lH (HU.out k)
   have hW : ((wr.alloc (.cells (Array.replicate B.links.length (.int .i64 0)) 3)).setCell ⟨wr.heap.size, k, none⟩ (.int .i64 (trk xs k))) = wr.alloc (.cells ((Array.replicate B.links.length (.int .i64 0)).setIfInBounds k (.int .i64 (trk xs k))) 3) := by go_simp
   rw [hW] at HOk HbW
   clear hO0 hbW hxk hW HO1
   clear hBW
   generalize trk xs k = x at *
   generalize costUp B (trk xs) k = s0 at *
   generalize costOf B (k : Int) x = p0 at *
   have hws : IntKind.wrap .i64 (s0 + p0) = s0 + p0 := IntWalk.i64_in _ (by omega)
   have HN : Hid (((k : Int) + 1 = ((k + 1 : Nat) : Int)) /\ k < B.links.length) := lH ⟨by omega, hlt⟩
   go_wp2_with fail
   refine HOk.out.mono ?_
   rintro e w2 ⟨rfl, hb3⟩
   have HB2 := lH (HbW.out.trans (hb3.mono HbW.out.size))
   clear hb3 e0 e1 e2 e3 hc hlz d0 d1
   go_wp2
   go_roundw
   case rel => exact ⟨k + 1, HN.out.2, by rw [<- HN.out.1], by rw [Hu.out], HB2.out⟩
   case measure => have := HN.out.2; simp [intOf]; omega
  ·have hke : k = B.links.length := by omega
   subst hke
   clear e0 e1 e2 e3 hz
   generalize costUp B (trk xs) B.links.length = s0 at *
   go_wp2_with fail
   refine comes_push (comes_reg ?_)
   refine comes_val rfl rfl (v := .int .i64 s0) (w1 := wr) (by go_simp) ?_
   refine comes_val rfl rfl (v := .int .i64 s0) (w1 := wr) (by go_simp) ?_
   refine comes_val rfl rfl (v := .bool true) (w1 := wr) (by go_simp) ?_
   refine comes_val rfl rfl (v := .bool true) (w1 := wr) (by go_simp) ?_
   exact comes_here (HQ.out _ _ _ ⟨rfl, ⟨rfl, rfl, rfl, trivial⟩, Hb.out⟩)
end Go.Proofs.YtaikibfkggglgaaDoor
