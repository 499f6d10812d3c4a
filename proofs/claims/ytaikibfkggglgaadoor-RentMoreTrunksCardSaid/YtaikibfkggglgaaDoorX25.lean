/- A part of the proof of RentMoreTrunks; no conditions of its own. -/
import Derived.Test.YtaikibfkggglgaaDoorX24
set_option maxRecDepth 100000
open Go renaming undef → ud
open Nat renaming le_refl → nR
open Go.Lib renaming hid → lH
open Go.RowKit.Below renaming refl → bR
open Go.Proofs.Tryd renaming prog → tP
open List renaming getElem?_eq_getElem → lG
open Go.World renaming cell?_setCell_other → wO
namespace Go.Proofs.YtaikibfkggglgaaDoor
open Go.RowKit Go.Rent Go.Tp Go.Conc
set_option maxHeartbeats 4000000 in
theorem c84 (V : BkV) (B : Bk) (hG : Good B) (i : Nat) (hi : i < B.pairs.length) (n : Int) (hn : 0 <= n /\ n <= 1000) (l : List Int) (la0 : Option Addr) (lc0 : Nat) (w : World) (hs : BkIn w V B) (hpc : V.pa = none -> V.pc = 0) (hl : SlI w la0 l) (hll : l.length <= 1000) (hlh : ∀ x ∈ l, 0 <= x /\ x < B.hours) :
  Calls tP 84 #[V.val B, .int .i64 (i : Int), .int .i64 n, .slice la0 l.length lc0] w fun e w' => ∃ V' O, e = .returned (.tuple #[V'.val B, .bool (gtr i n l B).2]) /\ ((gtr i n l B).2 = true -> OwnBk w' w.heap.size V' (gtr i n l B).1 O) /\ Below w.heap.size w w' := by
 obtain ⟨ta, la, pa, tc, lc, pc⟩ := V
 have hl1 := hG.fine.links
 have ht1 := hG.fine.towns
 have hp1 := hG.fine.pairs
 have hh1 := hG.fine.hours
 have Hs := lH hs
 have HG := lH hG
 have Hpc := lH hpc
 have Hl := lH hl
 have Hlh := lH hlh
 clear hs hG hpc hl hlh
 go_enter Tryd.func84, Tryd.ntmps84
 go_wp2_with fail
 generalize hWd : (w.alloc (.cells #[.int .i64 B.hours, .slice ta B.towns.length tc, .slice la B.links.length lc, .slice pa B.pairs.length pc] 89)).alloc (.cells #[.int .i64 0, .slice none 0 0, .slice none 0 0, .slice none 0 0] 89) = W
 have HBW : Hid (Below w.heap.size w W) := lH (by subst hWd; exact ((bR _ _).alloc (nR _) _).alloc (by simp) _)
 have HZ : Hid (W.heap.size = w.heap.size + 2) := lH (by subst hWd; simp)
 have HA : Hid (Row4 W w.heap.size (.int .i64 B.hours) (.slice ta B.towns.length tc) (.slice la B.links.length lc) (.slice pa B.pairs.length pc)) := lH (by subst hWd; exact ⟨by simp; omega, by go_simp, by go_simp, by go_simp, by go_simp, by go_simp, by go_simp, by go_simp, by go_simp⟩)
 have HR : Hid (Row4 W (w.heap.size + 1) (.int .i64 0) (.slice none 0 0) (.slice none 0 0) (.slice none 0 0)) := lH (by subst hWd; exact ⟨by simp, by go_simp, by go_simp, by go_simp, by go_simp, by go_simp, by go_simp, by go_simp, by go_simp⟩)
 clear hWd
 refine (c91 ⟨ta, la, pa, tc, lc, pc⟩ B HG.out W (Hs.out.below HBW.out (nR _)) Hpc.out).mono ?_
 rintro e w1 ⟨V1, O, rfl, hO, hb1⟩
 obtain ⟨va, vl, vp, vtc, vlc, vpc⟩ := V1
 have hr1 := HA.out.below hb1 HA.out.z
 obtain ⟨z1, a0, a1, a2, a3, g0, g1, g2, g3⟩ := hr1
 have HO := lH hO
 have Hb1 := lH hb1
 clear hO hb1
 go_wp2_with fail
 generalize hW1 : (((w1.setCell ⟨w.heap.size, 0, none⟩ (.int .i64 B.hours)).setCell ⟨w.heap.size, 1, none⟩ (.slice va B.towns.length vtc)).setCell ⟨w.heap.size, 2, none⟩ (.slice vl B.links.length vlc)).setCell ⟨w.heap.size, 3, none⟩ (.slice vp B.pairs.length vpc) = W1
 have HO1 : Hid (OwnBk W1 W.heap.size ⟨va, vl, vp, vtc, vlc, vpc⟩ B O) := lH (by
  have hz := HZ.out
  subst hW1
  exact (((HO.out.far _ (by omega)).far _ (by omega)).far _ (by omega)).far _ (by omega))
 have HB1 : Hid (Below w.heap.size w W1) := lH (by
  subst hW1
  exact ((((HBW.out.trans (Hb1.out.mono HBW.out.size)).setCell (p := ⟨w.heap.size, 0, none⟩) (nR _) _).setCell (p := ⟨w.heap.size, 1, none⟩) (nR _) _).setCell (p := ⟨w.heap.size, 2, none⟩) (nR _) _).setCell (p := ⟨w.heap.size, 3, none⟩) (nR _) _)
 have HS1 : Hid (W.heap.size <= W1.heap.size) := lH (by subst hW1; simpa using Hb1.out.size)
 have HX : Hid (Row4 W1 w.heap.size (.int .i64 B.hours) (.slice va B.towns.length vtc) (.slice vl B.links.length vlc) (.slice vp B.pairs.length vpc)) := lH (by
  subst hW1
  refine ⟨by simp; exact z1, ?_, ?_, ?_, ?_, by simp only [World.frozen?_setCell]; exact g0, by simp only [World.frozen?_setCell]; exact g1, by simp only [World.frozen?_setCell]; exact g2, by simp only [World.frozen?_setCell]; exact g3⟩
  ·rw [wO _ _ _ _ (by intro e; cases e), wO _ _ _ _ (by intro e; cases e), wO _ _ _ _ (by intro e; cases e)]
   exact World.cell?_setCell_same _ _ _ a0
  ·rw [wO _ _ _ _ (by intro e; cases e), wO _ _ _ _ (by intro e; cases e)]
   refine World.cell?_setCell_same _ _ _ (?_ : _ = some (.slice ta B.towns.length tc))
   rw [wO _ _ _ _ (by intro e; cases e)]
   exact a1
  ·rw [wO _ _ _ _ (by intro e; cases e)]
   refine World.cell?_setCell_same _ _ _ (?_ : _ = some (.slice la B.links.length lc))
   rw [wO _ _ _ _ (by intro e; cases e), wO _ _ _ _ (by intro e; cases e)]
   exact a2
  ·refine World.cell?_setCell_same _ _ _ (?_ : _ = some (.slice pa B.pairs.length pc))
   rw [wO _ _ _ _ (by intro e; cases e), wO _ _ _ _ (by intro e; cases e), wO _ _ _ _ (by intro e; cases e)]
   exact a3)
 have HR1 : Hid (Row4 W1 (w.heap.size + 1) (.int .i64 0) (.slice none 0 0) (.slice none 0 0) (.slice none 0 0)) := lH (by
  have hne : w.heap.size ≠ w.heap.size + 1 := by omega
  subst hW1
  exact (((((HR.out.below Hb1.out HR.out.z).other hne).other hne).other hne).other hne))
 have hlow : Hid (∀ u B2, OwnBk u W.heap.size ⟨va, vl, vp, vtc, vlc, vpc⟩ B2 O -> OwnBk u w.heap.size ⟨va, vl, vp, vtc, vlc, vpc⟩ B2 O) := lH fun u B2 h =>
  have hn := HBW.out.size
  ⟨h.ta, h.la, h.pa, h.pc, h.rp, h.tc, h.towns, h.links, h.steps, h.pairs, h.calls, fun i q hq => ⟨⟨(h.free i q hq).1.1, Nat.le_trans hn (h.free i q hq).1.2⟩, (h.free i q hq).2⟩, h.dis, ⟨Nat.le_trans hn h.lo.1, Nat.le_trans hn h.lo.2.1, Nat.le_trans hn h.lo.2.2.1, fun i L hL => Nat.le_trans hn (h.lo.2.2.2 i L hL)⟩⟩
 have hp0 : B.pairs[i]? = some B.pairs[i] := lG hi
 have HSh : Hid (Shape B B i B.hours.toNat) := lH ⟨rfl, rfl, rfl, rfl, _, hp0, by have := (HG.out.fine.calls i _ hp0).1; omega, fun m x hx => by
  have := (HG.out.fine.calls i _ hp0).2 m x hx
  simpa [bandOk] using this⟩
 clear hW1 a0 a1 a2 a3 g0 g1 g2 g3 z1 hp0
 go_loopw [17] (fun j wr => ∃ (k : Nat) (B' : Bk), k <= l.length /\ j = .int .i64 (k : Int) /\ OwnBk wr W.heap.size ⟨va, vl, vp, vtc, vlc, vpc⟩ B' O /\ Shape B B' i B.hours.toNat /\ gtr i n l B = gtr i n (l.drop k) B' /\ Below W.heap.size W1 wr) (fun j _ => l.length - (intOf j).toNat)
 case atStart => exact ⟨0, B, Nat.zero_le _, rfl, HO1.out, HSh.out, rfl, bR _ _⟩
 case round =>
  obtain ⟨k, B', hk, rfl, hO', hsh, hgt, hb⟩ := hrel
  have HO' := lH hO'
  have Hsh := lH hsh
  have Hgt := lH hgt
  have Hb := lH hb
  clear hO' hsh hgt hb
  have hz := HZ.out
  have b1 := bcell Hb.out
  have x0 := (b1.1 w.heap.size 0 (by omega)).trans HX.out.c0
  have x1 := (b1.1 w.heap.size 1 (by omega)).trans HX.out.c1
  have x2 := (b1.1 w.heap.size 2 (by omega)).trans HX.out.c2
  have x3 := (b1.1 w.heap.size 3 (by omega)).trans HX.out.c3
  have r0 := (b1.1 (w.heap.size + 1) 0 (by omega)).trans HR1.out.c0
  have r1 := (b1.1 (w.heap.size + 1) 1 (by omega)).trans HR1.out.c1
  have r2 := (b1.1 (w.heap.size + 1) 2 (by omega)).trans HR1.out.c2
  have r3 := (b1.1 (w.heap.size + 1) 3 (by omega)).trans HR1.out.c3
  have g0 := (b1.2 (w.heap.size + 1) 0 (by omega)).trans HR1.out.f0
  have g1 := (b1.2 (w.heap.size + 1) 1 (by omega)).trans HR1.out.f1
  have g2 := (b1.2 (w.heap.size + 1) 2 (by omega)).trans HR1.out.f2
  have g3 := (b1.2 (w.heap.size + 1) 3 (by omega)).trans HR1.out.f3
  clear b1
  have n2 : w.heap.size + 1 < W.heap.size := by omega
  have n3 : w.heap.size <= w.heap.size + 1 := by omega
  have HBr : Hid (Below w.heap.size w wr) := lH (HB1.out.trans (Hb.out.mono (by omega)))
  by_cases hlt : k < l.length
  ·obtain ⟨lb, lo, rfl, hlk⟩ := sl_at (Hl.out.below HBr.out (nR _)) hlt
   have hmem : trk l k ∈ l := by
    have t1 : trk l k = l[k] := by unfold trk; rw [List.getD_eq_getElem?_getD, lG hlt]; rfl
    rw [t1]; exact List.getElem_mem hlt
   have hhr := Hlh.out _ hmem
   obtain ⟨h, hhe⟩ : ∃ h : Nat, trk l k = (h : Int) := ⟨(trk l k).toNat, by omega⟩
   have hhit := gtr_hit (i := i) (n := n) (B := B') hlt
   have hmiss := gtr_miss (i := i) (n := n) (B := B') hlt
   rw [hhe, Int.toNat_natCast] at hhit hmiss
   rw [hhe] at hlk hhr
   obtain ⟨q', hq', hql, hqx, hxb⟩ := Hsh.out.band (h := h) (by omega)
   obtain ⟨_, _, sc, l2⟩ := HO'.out.pairs i q' hq'
   have hpa := HO'.out.pa i q' hq'
   simp only at hpa
   rw [hql] at l2
   obtain ⟨c0, c1⟩ := HO'.out.calls i q' h _ hq' hqx
   have hfr := (HO'.out.free i q' hq').2
   have hcb := (HO'.out.free i q' hq').1
   have fr0 := hfr (h * 2)
   have fr1 := hfr (h * 2 + 1)
   have Hhit := lH hhit
   have Hmiss := lH hmiss
   have Hq := lH (And.intro hq' hql)
   have Hcb := lH hcb
   have hbd : Hid (bandAt B' i h = ((bandAt B' i h).1, (bandAt B' i h).2)) := lH rfl
   generalize hxx : bandAt B' i h = x at *
   obtain ⟨y1, y2⟩ := x
   simp only at c0 c1 hxb
   clear hmem hhe hhit hmiss hq' hql hqx hfr hcb hxx hbd
   subst hpa
   have hi' : (i : Int) < (B.pairs.length : Int) := by omega
   have hi0 : (0 : Int) <= (i : Int) := Int.natCast_nonneg _
   have hlt' : (k : Int) < (l.length : Int) := by omega
   have hk0 : (0 : Int) <= (k : Int) := Int.natCast_nonneg _
   have hh0 : (0 : Int) <= (h : Int) := Int.natCast_nonneg _
   have hhL : (h : Int) < (B.hours.toNat : Int) := by omega
   have w1r : IntKind.wrap .i64 (y1 + n) = y1 + n := IntWalk.i64_in _ (by omega)
   have w2r : IntKind.wrap .i64 (y2 + n) = y2 + n := IntWalk.i64_in _ (by omega)
   have HS : Hid (OwnBk (((wr.setCell ⟨O.cb i, h * 2, none⟩ (.int .i64 (y1 + n))).setCell ⟨O.cb i, h * 2 + 1, none⟩ (.int .i64 (y2 + n))).drew) W.heap.size ⟨va, vl, some ⟨O.pb, 0, none⟩, vtc, vlc, vpc⟩ (setCall B' i h (addB (y1, y2) n)) O) := lH ((HO'.out.store Hq.out.1 (by have := Hq.out.2; omega) (addB (y1, y2) n)).below (bR _ _).drew)
   have HBS : Hid (Below W.heap.size W1 (((wr.setCell ⟨O.cb i, h * 2, none⟩ (.int .i64 (y1 + n))).setCell ⟨O.cb i, h * 2 + 1, none⟩ (.int .i64 (y2 + n))).drew)) := lH ((Hb.out.setCell (p := ⟨O.cb i, h * 2, none⟩) Hcb.out.2 _).setCell (p := ⟨O.cb i, h * 2 + 1, none⟩) Hcb.out.2 _).drew
   go_wp2_with fail
   go_region_with (fail)
   all_goals
    generalize hWs : (((wr.setCell ⟨O.cb i, h * 2, none⟩ (.int .i64 (y1 + n))).setCell ⟨O.cb i, h * 2 + 1, none⟩ (.int .i64 (y2 + n))).drew) = W6 at *
    have d0 : W6.cell? ⟨O.cb i, h * 2, none⟩ = some (.int .i64 (y1 + n)) := by
     subst hWs
     change World.cell? (World.setCell (World.setCell wr _ _) _ _) _ = _
     rw [wO _ _ _ _ (by intro e; simp only [Addr.mk.injEq] at e; omega)]
     exact World.cell?_setCell_same _ _ _ c0
    have d1 : W6.cell? ⟨O.cb i, h * 2 + 1, none⟩ = some (.int .i64 (y2 + n)) := by
     subst hWs
     change World.cell? (World.setCell (World.setCell wr _ _) _ _) _ = _
     refine World.cell?_setCell_same _ _ _ (?_ : _ = some (.int .i64 y2))
     rw [wO _ _ _ _ (by intro e; simp only [Addr.mk.injEq] at e; omega)]
     exact c1
    have HBx : Hid (∀ w7, Below W6.heap.size W6 w7 -> Below W.heap.size W1 w7) := lH fun w7 h7 => HBS.out.trans (h7.mono (Nat.le_trans HS1.out HBS.out.size))
    clear hWs c0 c1 fr0 fr1 x0 x1 x2 x3 r0 r1 r2 r3 g0 g1 g2 g3
    go_wp2_with fail
    refine (c90 (y1 + n) (y2 + n) _).mono ?_
    rintro e w7 ⟨rfl, hb7⟩
    have HO7 := lH (HS.out.below hb7)
    have hb7' := HBx.out w7 hb7
    have Hb7 := lH hb7'
    have b1 := bcell hb7'
    have x0 := (b1.1 w.heap.size 0 (by omega)).trans HX.out.c0
    have x1 := (b1.1 w.heap.size 1 (by omega)).trans HX.out.c1
    have x2 := (b1.1 w.heap.size 2 (by omega)).trans HX.out.c2
    have x3 := (b1.1 w.heap.size 3 (by omega)).trans HX.out.c3
    have r0 := (b1.1 (w.heap.size + 1) 0 (by omega)).trans HR1.out.c0
    have r1 := (b1.1 (w.heap.size + 1) 1 (by omega)).trans HR1.out.c1
    have r2 := (b1.1 (w.heap.size + 1) 2 (by omega)).trans HR1.out.c2
    have r3 := (b1.1 (w.heap.size + 1) 3 (by omega)).trans HR1.out.c3
    have g0 := (b1.2 (w.heap.size + 1) 0 (by omega)).trans HR1.out.f0
    have g1 := (b1.2 (w.heap.size + 1) 1 (by omega)).trans HR1.out.f1
    have g2 := (b1.2 (w.heap.size + 1) 2 (by omega)).trans HR1.out.f2
    have g3 := (b1.2 (w.heap.size + 1) 3 (by omega)).trans HR1.out.f3
    clear b1 hb7 hb7' d0 d1
    by_cases hbo : bandOk (y1 + n, y2 + n) = true
    ·have HH := lH (Hgt.out.trans (Hhit.out hbo))
     have HSt := lH (Hsh.out.step (h := h) hbo)
     rw [hbo]
     go_wp2
     go_roundw
     case rel => exact ⟨k + 1, _, by omega, by go_num, HO7.out, HSt.out, HH.out, Hb7.out⟩
     case measure => simp [intOf]; omega
    ·have HM : Hid ((gtr i n l B).2 = false) := lH (by rw [Hgt.out]; exact Hmiss.out hbo)
     have hbf : bandOk (y1 + n, y2 + n) = false := by simpa using hbo
     rw [hbf]
     go_wp2
     refine bodyPost_ret (v := .tuple #[.agg #[.int .i64 B.hours, .slice va B.towns.length vtc, .slice vl B.links.length vlc, .slice (some ⟨O.pb, 0, none⟩) B.pairs.length vpc], .bool false]) (by simp [results, Tryd.results84, go_sem, r0, r1, r2, r3]) rfl
      ⟨⟨va, vl, some ⟨O.pb, 0, none⟩, vtc, vlc, vpc⟩, O, by rw [HM.out], fun h => absurd h (by rw [HM.out]; decide), ?_⟩
     exact ((((HB1.out.trans (Hb7.out.mono (by omega))).setCell (p := ⟨w.heap.size + 1, 0, none⟩) n3 _).setCell (p := ⟨w.heap.size + 1, 1, none⟩) n3 _).setCell (p := ⟨w.heap.size + 1, 2, none⟩) n3 _).setCell (p := ⟨w.heap.size + 1, 3, none⟩) n3 _
  ·have hke : k = l.length := by omega
   have he := Hgt.out.trans (gtr_end (by omega))
   have HE := lH he
   clear he
   go_wp2
   refine bodyPost_ret (v := .tuple #[.agg #[.int .i64 B.hours, .slice va B.towns.length vtc, .slice vl B.links.length vlc, .slice vp B.pairs.length vpc], .bool true]) (by simp [results, Tryd.results84, go_sem, r0, r1, r2, r3]) rfl
    ⟨⟨va, vl, vp, vtc, vlc, vpc⟩, O, by rw [HE.out], fun _ => ?_, ?_⟩
   ·rw [HE.out]
    exact hlow.out _ _ ((((HO'.out.far _ n2).far _ n2).far _ n2).far _ n2)
   ·exact (((HBr.out.setCell (p := ⟨w.heap.size + 1, 0, none⟩) n3 _).setCell (p := ⟨w.heap.size + 1, 1, none⟩) n3 _).setCell (p := ⟨w.heap.size + 1, 2, none⟩) n3 _).setCell (p := ⟨w.heap.size + 1, 3, none⟩) n3 _
theorem keep_have2 {p q : Prop} (h : p) (k : p -> q) : q := k h
def Zero4 (u : World) (b : Nat) : Prop := (u.cell? ⟨b, 0, none⟩ = some (.int .i64 0) /\ u.cell? ⟨b, 1, none⟩ = some (.slice none 0 0) /\ u.cell? ⟨b, 2, none⟩ = some (.slice none 0 0) /\ u.cell? ⟨b, 3, none⟩ = some (.slice none 0 0)) /\
 u.frozen? ⟨b, 0, none⟩ = false /\ u.frozen? ⟨b, 1, none⟩ = false /\ u.frozen? ⟨b, 2, none⟩ = false /\ u.frozen? ⟨b, 3, none⟩ = false
theorem zero4_keep {W u u' : World} {b : Nat} (hk : KeepR W u u') (h : Zero4 u b) : Zero4 u' b := by
 obtain ⟨_, hc, hf, _⟩ := hk
 obtain ⟨⟨c0, c1, c2, c3⟩, f0, f1, f2, f3⟩ := h
 exact ⟨⟨(hc _ _ (by rw [c0]; rfl)).trans c0, (hc _ _ (by rw [c1]; rfl)).trans c1, (hc _ _ (by rw [c2]; rfl)).trans c2, (hc _ _ (by rw [c3]; rfl)).trans c3⟩, (hf _ _ (by rw [c0]; rfl)).trans f0, (hf _ _ (by rw [c1]; rfl)).trans f1, (hf _ _ (by rw [c2]; rfl)).trans f2, (hf _ _ (by rw [c3]; rfl)).trans f3⟩
theorem zero4_new (u : World) : Zero4 (u.alloc (.cells #[.int .i64 0, .slice none 0 0, .slice none 0 0, .slice none 0 0] 89)) u.heap.size := ⟨⟨by simp, by simp, by simp, by simp⟩, by simp, by simp, by simp, by simp⟩
theorem zero4_newd (u : World) : Zero4 (u.alloc (.cells #[.int .i64 0, .slice none 0 0, .slice none 0 0, .slice none 0 0] 89)).drew u.heap.size := zero4_new u
noncomputable def mrR1 : Code := match Tryd.f42.body with
 | some (.seq _ (.seq c _)) => c
 | _ => .skip
def MrP (v0 : Value) (ta la pa : Option Addr) (tc lc pc : Nat) (B : Bk) (i n : Int) (w W : World) (h' : Int) (ta' la' pa' : Option Addr) (tc' lc' pc' n1 n2 n3 : Nat) (al : Int) (a : Act) (w' : World) : Prop :=
 ∃ b8, a = ⟨#[v0, .int .i64 i, .int .i64 n, .pointer (some ⟨w.heap.size, 0, none⟩), ud, ud, .int .i64 0, .int .i64 0, .pointer (some ⟨b8, 0, none⟩), .int .i64 al, ud, ud, .tuple #[.agg #[.int .i64 h', .slice ta' n1 tc', .slice la' n2 lc', .slice pa' n3 pc'], .int .i64 al], .agg #[.int .i64 B.hours, .slice ta B.towns.length tc, .slice la B.links.length lc, .slice pa B.pairs.length pc], .agg #[.int .i64 B.hours, .slice ta B.towns.length tc, .slice la B.links.length lc, .slice pa B.pairs.length pc], .int .i64 i, .bool true, .bool true, .agg #[.int .i64 B.hours, .slice ta B.towns.length tc, .slice la B.links.length lc, .slice pa B.pairs.length pc], .int .i64 n, .bool (thereB B n), .bool (thereB B n), .tuple #[.agg #[.int .i64 h', .slice ta' n1 tc', .slice la' n2 lc', .slice pa' n3 pc'], .int .i64 al], .agg #[.int .i64 h', .slice ta' n1 tc', .slice la' n2 lc', .slice pa' n3 pc'], .int .i64 al, ud, ud, ud, ud, ud, ud, ud, ud, ud, ud, ud, ud, ud, ud, ud, ud, ud, ud, ud, ud, ud, ud, ud, ud], []⟩ /\ W.heap.size <= b8 /\ Below W.heap.size W w' /\ Row4 w' b8 (.int .i64 h') (.slice ta' n1 tc') (.slice la' n2 lc') (.slice pa' n3 pc')
set_option maxHeartbeats 4000000 in
theorem mr_r1 (ta la pa : Option Addr) (tc lc pc : Nat) (B : Bk) (i n : Int) (hi : btw i 0 ((B.pairs.length : Int) - 1) = true) (w W : World) (v0 : Value) (hs : BkIn w ⟨ta, la, pa, tc, lc, pc⟩ B) (hv : Vars w) (HBW : Hid (Below w.heap.size w W))
  (k0 : W.cell? ⟨w.heap.size, 0, none⟩ = some (.int .i64 B.hours)) (k1 : W.cell? ⟨w.heap.size, 1, none⟩ = some (.slice ta B.towns.length tc)) (k2 : W.cell? ⟨w.heap.size, 2, none⟩ = some (.slice la B.links.length lc)) (k3 : W.cell? ⟨w.heap.size, 3, none⟩ = some (.slice pa B.pairs.length pc))
  (h' : Int) (ta' la' pa' : Option Addr) (tc' lc' pc' n1 n2 n3 : Nat) (al : Int) (hres : resB ⟨ta, la, pa, tc, lc, pc⟩ B (openA B (thereB B n)) = .tuple #[.agg #[.int .i64 h', .slice ta' n1 tc', .slice la' n2 lc', .slice pa' n3 pc'], .int .i64 al]) :
  mrR1.wp tP (Exit.then (MrP v0 ta la pa tc lc pc B i n w W h' ta' la' pa' tc' lc' pc' n1 n2 n3 al) Gone) ⟨#[v0, .int .i64 i, .int .i64 n, .pointer (some ⟨w.heap.size, 0, none⟩), ud, ud, .int .i64 0, .int .i64 0, ud, ud, ud, ud, ud, ud, ud, ud, ud, ud, ud, ud, ud, ud, ud, ud, ud, ud, ud, ud, ud, ud, ud, ud, ud, ud, ud, ud, ud, ud, ud, ud, ud, ud, ud, ud, ud, ud, ud, ud, ud], []⟩ W := by
 have Hs := lH hs
 have Hv := lH hv
 have HC : Hid (∀ u, Below W.heap.size W u -> Below W.heap.size W u /\ u.cell? ⟨w.heap.size, 0, none⟩ = some (.int .i64 B.hours) /\ u.cell? ⟨w.heap.size, 1, none⟩ = some (.slice ta B.towns.length tc) /\ u.cell? ⟨w.heap.size, 2, none⟩ = some (.slice la B.links.length lc) /\ u.cell? ⟨w.heap.size, 3, none⟩ = some (.slice pa B.pairs.length pc)) := lH fun u h =>
  ⟨h, cell_below h k0 (nR _), cell_below h k1 (nR _), cell_below h k2 (nR _), cell_below h k3 (nR _)⟩
 have H0 : Hid (∀ u, Below W.heap.size W u -> Calls tP 83 #[.agg #[.int .i64 B.hours, .slice ta B.towns.length tc, .slice la B.links.length lc, .slice pa B.pairs.length pc], .int .i64 i] u fun e u' => e = .returned (.bool true) /\ KeepR W u u') := lH fun u hu => (c83 ⟨ta, la, pa, tc, lc, pc⟩ B i u Hs.out.np).mono fun _ _ h => ⟨by rw [h.1, hi], keepR hu h.2⟩
 have HA : Hid (∀ u, Below W.heap.size W u -> Calls tP 56 #[.agg #[.int .i64 B.hours, .slice ta B.towns.length tc, .slice la B.links.length lc, .slice pa B.pairs.length pc], .int .i64 n] u fun e u' => e = .returned (.bool (thereB B n)) /\ KeepR W u u') := lH fun u hu => (c56_in B.hours _ _ _ n u).mono fun _ _ h => ⟨h.1, keepR hu h.2⟩
 have HB : Hid (∀ u, Below W.heap.size W u -> Calls tP 78 #[.agg #[.int .i64 B.hours, .slice ta B.towns.length tc, .slice la B.links.length lc, .slice pa B.pairs.length pc], .bool (thereB B n)] u fun e u' => e = .returned (.tuple #[.agg #[.int .i64 h', .slice ta' n1 tc', .slice la' n2 lc', .slice pa' n3 pc'], .int .i64 al]) /\ KeepR W u u') := lH fun u hu => by
  have hwu := HBW.out.trans (hu.mono HBW.out.size)
  refine (c78 ⟨ta, la, pa, tc, lc, pc⟩ B (thereB B n) u (Hs.out.below hwu (nR _)) (Hv.out.v2.below hwu (nR _))).mono ?_
  rintro e u' ⟨rfl, hb⟩
  exact ⟨by rw [hres], keepR hu hb⟩
 clear hres hs hv hi
 have HD : Hid (Below W.heap.size W W.drew) := lH (bR _ _).drew
 have HDA : Hid (∀ o, Below W.heap.size W ((W.alloc o).drew)) := lH fun o => (below_alloc (bR _ _)).drew
 simp only [mrR1, Tryd.f42]
 go_region_held3 (fun w' => Below W.heap.size W w' /\ w'.cell? ⟨w.heap.size, 0, none⟩ = some (.int .i64 B.hours) /\ w'.cell? ⟨w.heap.size, 1, none⟩ = some (.slice ta B.towns.length tc) /\ w'.cell? ⟨w.heap.size, 2, none⟩ = some (.slice la B.links.length lc) /\ w'.cell? ⟨w.heap.size, 3, none⟩ = some (.slice pa B.pairs.length pc))
  ((refine HC.out _ ?_; go_split_ands; repeat (first | with_reducible assumption | with_reducible exact bR _ _ | with_reducible refine below_alloc ?_ | with_reducible refine Below.drew ?_ | with_reducible refine Below.setCell ?_ ?_ _ | (focus (simp; done)) | (focus (simp; omega)) | (focus omega))))
  (first
   | (go_simp; go_at_call 83; go_split_ands; (with_reducible refine (H0.out _ ?_).mono ?_); (with_reducible assumption); rintro e w0 ⟨rfl, hk0⟩; have hzz := hk0.1.out.size; have hbz' := hk0.1.out; (try (refine keep_have2 (zero4_keep (b := W.heap.size) hk0 ?_) ?_; (focus (first | with_reducible assumption | with_reducible exact zero4_new _ | with_reducible exact zero4_newd _)); intro hz4)))
   | (go_simp; go_at_call 56; go_split_ands; (with_reducible refine (HA.out _ ?_).mono ?_); (with_reducible assumption); rintro e w1 ⟨rfl, hk1⟩; have hzw := hk1.1.out.size; have hbw' := hk1.1.out; (try (refine keep_have2 (zero4_keep (b := W.heap.size) hk1 ?_) ?_; (focus (first | with_reducible assumption | with_reducible exact zero4_new _ | with_reducible exact zero4_newd _)); intro hz4)); (try (refine keep_have2 (zero4_keep (b := w0.heap.size) hk1 ?_) ?_; (focus (first | with_reducible assumption | with_reducible exact zero4_new _ | with_reducible exact zero4_newd _)); intro hz4)))
   | (go_simp; go_at_call 78; go_split_ands; (with_reducible refine (HB.out _ ?_).mono ?_); (with_reducible assumption); rintro e w2 ⟨rfl, hk2⟩; have hzv := hk2.1.out.size; have hbv' := hk2.1.out; (try (refine keep_have2 (zero4_keep (b := W.heap.size) hk2 ?_) ?_; (focus (first | with_reducible assumption | with_reducible exact zero4_new _ | with_reducible exact zero4_newd _)); intro hz4)); (try (refine keep_have2 (zero4_keep (b := w0.heap.size) hk2 ?_) ?_; (focus (first | with_reducible assumption | with_reducible exact zero4_new _ | with_reducible exact zero4_newd _)); intro hz4)); (try (refine keep_have2 (zero4_keep (b := w1.heap.size) hk2 ?_) ?_; (focus (first | with_reducible assumption | with_reducible exact zero4_new _ | with_reducible exact zero4_newd _)); intro hz4)); (try (obtain ⟨⟨r0, r1, r2, r3⟩, g0, g1, g2, g3⟩ := hz4))))
 all_goals
  go_split_ands
  refine ⟨_, rfl, ?_, ?_, row4_of ?_ ?_ ?_ ?_ ?_ ?_ ?_ ?_⟩
  ·first
    | exact nR _
    | with_reducible assumption
  ·with_reducible assumption
  all_goals first
   | (go_simp; done)
   | (go_simp; refine World.cell?_setCell_same' _ _ _ ?_; go_simp; done)
theorem Good.setCall {B : Bk} (hG : Good B) {i k : Nat} {y : Int × Int} (hy : bandOk y = true) : Good (setCall B i k y) := by
 have hlen : (Go.Proofs.YtaikibfkggglgaaDoor.setCall B i k y).pairs.length = B.pairs.length := by show (List.modify _ _ _).length = _; rw [List.length_modify]
 have back : ∀ (j : Nat) (q : Pr), (Go.Proofs.YtaikibfkggglgaaDoor.setCall B i k y).pairs[j]? = some q -> ∃ p, B.pairs[j]? = some p /\ q.one = p.one /\ q.two = p.two /\ q.calls.length = p.calls.length /\ ∀ (m : Nat) (x : Int × Int), q.calls[m]? = some x -> x = y \/ p.calls[m]? = some x := fun j q hq => by
  obtain ⟨p, h0, h1, h2, h3, h4⟩ := setCall_get hq
  refine ⟨p, h0, h1, h2, h3, fun m x hx => ?_⟩
  rw [h4 m] at hx
  split at hx
  ·cases hx; exact .inl rfl
  ·exact .inr hx
 have hyb : 0 <= y.1 /\ y.1 <= y.2 /\ y.2 <= 5 := by simpa [bandOk] using hy
 refine ⟨⟨hG.fine.hours, hG.fine.towns, hG.fine.links, by rw [hlen]; exact hG.fine.pairs, fun j hj => ?_, fun j q hq => ?_⟩, hG.hours, hG.towns, hG.links, fun j q hq => ?_, hG.steps⟩
 ·have hj' : j < B.pairs.length := by rw [hlen] at hj; exact hj
  have hq : (Go.Proofs.YtaikibfkggglgaaDoor.setCall B i k y).pairs[j]? = some (Go.Proofs.YtaikibfkggglgaaDoor.setCall B i k y).pairs[j] := lG hj
  obtain ⟨p, h0, h1, h2, _⟩ := back j _ hq
  have := hG.fine.ends j hj'
  unfold Bk.pone Bk.ptwo at this ⊢
  rw [h0] at this
  rw [hq]
  simp only [Option.map_some, Option.getD_some] at this ⊢
  rw [h1, h2]
  exact this
 ·obtain ⟨p, h0, _, _, h3, h4⟩ := back j q hq
  have := hG.fine.calls j p h0
  refine ⟨by rw [h3]; exact this.1, fun m x hx => ?_⟩
  rcases h4 m x hx with rfl | h
  ·exact hyb
  ·exact this.2 m x h
 ·obtain ⟨p, h0, h1, h2, h3, h4⟩ := back j q hq
  obtain ⟨q1, q2, q3, q4, q5⟩ := hG.pairs j p h0
  rw [h1, h2]
  refine ⟨q1, q2, q3, by rw [h3]; exact q4, ?_⟩
  unfold badCalls
  rw [List.any_eq_false]
  intro x hx
  obtain ⟨m, hm⟩ := List.getElem?_of_mem hx
  rcases h4 m x hm with rfl | h
  ·simp [hy]
  ·have := bandOk_of q5 h
   simp [bandOk]
   omega
theorem gtr_good (i : Nat) (n : Int) : ∀ (l : List Int) (B : Bk), Good B -> (gtr i n l B).2 = true -> Good (gtr i n l B).1
 | [], B, h, _ => h
 | y :: l, B, h, ho => by
  unfold gtr at ho ⊢
  split at ho
  ·rename_i hb
   rw [if_pos hb]
   exact gtr_good i n l _ (h.setCall hb) ho
  ·cases ho
theorem gtr_shape (i : Nat) (n : Int) : ∀ (l : List Int) (B : Bk), (gtr i n l B).1.hours = B.hours /\ (gtr i n l B).1.towns = B.towns /\ (gtr i n l B).1.links = B.links /\ (gtr i n l B).1.pairs.length = B.pairs.length
 | [], B => ⟨rfl, rfl, rfl, rfl⟩
 | y :: l, B => by
  unfold gtr
  split
  ·obtain ⟨h1, h2, h3, h4⟩ := gtr_shape i n l (setCall B i y.toNat (addB (bandAt B i y.toNat) n))
   exact ⟨h1, h2, h3, h4.trans (by show (List.modify _ _ _).length = _; rw [List.length_modify])⟩
  ·exact ⟨rfl, rfl, rfl, rfl⟩
theorem small_of {B : Bk} (hG : Good B) : Small B := by
 have h1 := hG.fine.towns
 have h2 := hG.fine.links
 have h3 := hG.fine.pairs
 have h4 := hG.fine.hours
 refine ⟨by omega, by omega, by omega, fun i L hL => ?_, fun i p hp => ?_⟩
 ·obtain ⟨_, _, _, q4⟩ := hG.links i L hL
  unfold alSteps at q4
  cases e : btw (L.steps.length : Int) 1 3 with
  | true => have := btw_t e; omega
  | false => rw [e] at q4; cases q4
 ·have := (hG.fine.calls i p hp).1
  omega
def moreV (B : Bk) (i : Nat) (n : Int) : Value :=
 if openA B (thereB B n) = 0 then (if (gtr i 1 [n] B).2 then .tuple #[.int .i64 ((bestOf (gtr i 1 [n] B).1 anyF).2 - (bestOf B anyF).2), .int .i64 0] else .tuple #[.int .i64 0, .int .i64 1])
 else .tuple #[.int .i64 0, .int .i64 (openA B (thereB B n))]
set_option maxHeartbeats 4000000 in
theorem c42_ok (V : BkV) (B : Bk) (i h : Nat) (w : World) (hs : BkIn w V B) (hv : Vars w) (hpc : V.pa = none -> V.pc = 0) (hG : Good B) (hi : i < B.pairs.length) (hh : (h : Int) < B.hours) (hal : openA B (thereB B (h : Int)) = 0) :
  Calls tP 42 #[V.val B, .int .i64 (i : Int), .int .i64 (h : Int)] w fun e w' => e = .returned (moreV B i (h : Int)) /\ Below w.heap.size w w' := by
 obtain ⟨ta, la, pa, tc, lc, pc⟩ := V
 have hp1 := hG.fine.pairs
 have hbi : btw (i : Int) 0 ((B.pairs.length : Int) - 1) = true := by unfold btw; simp; omega
 have hres : resB ⟨ta, la, pa, tc, lc, pc⟩ B (openA B (thereB B (h : Int))) = .tuple #[.agg #[.int .i64 B.hours, .slice ta B.towns.length tc, .slice la B.links.length lc, .slice pa B.pairs.length pc], .int .i64 0] := by rw [hal]; rfl
 have HE : Hid (moreV B i (h : Int) = (if (gtr i 1 [(h : Int)] B).2 then .tuple #[.int .i64 ((bestOf (gtr i 1 [(h : Int)] B).1 anyF).2 - (bestOf B anyF).2), .int .i64 0] else .tuple #[.int .i64 0, .int .i64 1])) := lH (by unfold moreV; rw [if_pos hal])
 have Hs := lH hs
 have Hv := lH hv
 have Hpc := lH hpc
 have HG := lH hG
 have Hres := lH hres
 have Hbi := lH hbi
 have Hh := lH hh
 clear hs hv hpc hG hres hbi hal hh
 go_enter Tryd.func42, Tryd.ntmps42
 go_wp2_with fail
 generalize hWd : w.alloc (.cells #[.int .i64 B.hours, .slice ta B.towns.length tc, .slice la B.links.length lc, .slice pa B.pairs.length pc] 26) = W
 have HBW : Hid (Below w.heap.size w W) := lH (by subst hWd; exact (bR _ _).alloc (nR _) _)
 have k0 : W.cell? ⟨w.heap.size, 0, none⟩ = some (.int .i64 B.hours) := by subst hWd; go_simp
 have k1 : W.cell? ⟨w.heap.size, 1, none⟩ = some (.slice ta B.towns.length tc) := by subst hWd; go_simp
 have k2 : W.cell? ⟨w.heap.size, 2, none⟩ = some (.slice la B.links.length lc) := by subst hWd; go_simp
 have k3 : W.cell? ⟨w.heap.size, 3, none⟩ = some (.slice pa B.pairs.length pc) := by subst hWd; go_simp
 clear hWd
 refine Code.wp_mono ?_ (mr_r1 ta la pa tc lc pc B (i : Int) (h : Int) Hbi.out w W _ Hs.out Hv.out HBW k0 k1 k2 k3 B.hours ta la pa tc lc pc B.towns.length B.links.length B.pairs.length 0 Hres.out)
 rintro e a w' hq
 cases e with
 | normal =>
  obtain ⟨b8, rfl, hb8, hbel, hrow⟩ := hq
  have HRow := lH hrow
  have HBw' : Hid (Below w.heap.size w w') := lH (HBW.out.trans (hbel.mono HBW.out.size))
  obtain ⟨z8, c0, c1, c2, c3, _, _, _, _⟩ := hrow
  clear k0 k1 k2 k3 hb8 hbel
  go_wp2_with fail
  have HBA : Hid (Below w'.heap.size w' (w'.alloc (.cells #[.int .i64 (h : Int)] 3))) := lH ((bR _ _).alloc (nR _) _)
  have HBB : Hid (Below w.heap.size w (w'.alloc (.cells #[.int .i64 (h : Int)] 3))) := lH (HBw'.out.trans (HBA.out.mono HBw'.out.size))
  have hsl : SlI (w'.alloc (.cells #[.int .i64 (h : Int)] 3)) (some ⟨w'.heap.size, 0, none⟩) [(h : Int)] := fun j x hx => by
   match j, hx with
   | 0, hx => cases hx; exact ⟨w'.heap.size, 0, rfl, by simp⟩
  refine (c84 ⟨ta, la, pa, tc, lc, pc⟩ B HG.out i hi 1 (by decide) [(h : Int)] (some ⟨w'.heap.size, 0, none⟩) 1 _ (Hs.out.below HBB.out (nR _)) Hpc.out hsl (by simp) (fun x hx => by
   obtain rfl : x = (h : Int) := by simpa using hx
   exact ⟨Int.natCast_nonneg _, Hh.out⟩)).mono ?_
  rintro e w2 ⟨⟨va, vl, vp, vtc, vlc, vpc⟩, O, rfl, hO, hb2⟩
  have HB2 : Hid (Below w'.heap.size w' w2) := lH (HBA.out.trans (hb2.mono HBA.out.size))
  have d0 := cell_below HB2.out c0 (nR _)
  have d1 := cell_below HB2.out c1 (nR _)
  have d2 := cell_below HB2.out c2 (nR _)
  have d3 := cell_below HB2.out c3 (nR _)
  have HO := lH hO
  have hz2 := HB2.out.size
  clear hsl hb2 c0 c1 c2 c3 hO
  cases hok : (gtr i 1 [(h : Int)] B).2 with
  | false =>
   have HE2 : Hid (moreV B i (h : Int) = .tuple #[.int .i64 0, .int .i64 1]) := lH (by rw [HE.out, hok]; rfl)
   go_wp2
   refine bodyPost_ret (v := .tuple #[.int .i64 0, .int .i64 1]) (by simp [results, Tryd.results42, go_sem]) rfl ⟨by rw [HE2.out], ?_⟩
   exact (HBw'.out.trans (HB2.out.mono HBw'.out.size)).trans ((bR _ _).alloc (HBw'.out.trans (HB2.out.mono HBw'.out.size)).size _)
  | true =>
   have HE2 : Hid (moreV B i (h : Int) = .tuple #[.int .i64 ((bestOf (gtr i 1 [(h : Int)] B).1 anyF).2 - (bestOf B anyF).2), .int .i64 0]) := lH (by rw [HE.out, hok]; rfl)
   have HO2 := lH (HO.out hok)
   have HG2 := lH (gtr_good i 1 [(h : Int)] B HG.out hok)
   obtain ⟨e1, e2, e3, e4⟩ := gtr_shape i 1 [(h : Int)] B
   have Hval : Hid (∀ V : BkV, V.val (gtr i 1 [(h : Int)] B).1 = V.val B) := lH fun V => by simp only [BkV.val, e1, e2, e3, e4]
   have Hl : Hid ((gtr i 1 [(h : Int)] B).1.links.length = B.links.length) := lH (by rw [e3])
   clear e1 e2 e3 e4 hok
   generalize (gtr i 1 [(h : Int)] B).1 = B2 at *
   go_wp2_with fail
   have hbC : Below w2.heap.size w2 (w2.alloc (.cells #[.int .i64 B.hours, .slice va B.towns.length vtc, .slice vl B.links.length vlc, .slice vp B.pairs.length vpc] 89)) := (bR _ _).alloc (nR _) _
   have p0 := cell_below hbC d0 (nR _)
   have p1 := cell_below hbC d1 (nR _)
   have p2 := cell_below hbC d2 (nR _)
   have p3 := cell_below hbC d3 (nR _)
   have q0 : (w2.alloc (.cells #[.int .i64 B.hours, .slice va B.towns.length vtc, .slice vl B.links.length vlc, .slice vp B.pairs.length vpc] 89)).cell? ⟨w2.heap.size, 0, none⟩ = some (.int .i64 B.hours) := by simp
   have q1 : (w2.alloc (.cells #[.int .i64 B.hours, .slice va B.towns.length vtc, .slice vl B.links.length vlc, .slice vp B.pairs.length vpc] 89)).cell? ⟨w2.heap.size, 1, none⟩ = some (.slice va B.towns.length vtc) := by simp
   have q2 : (w2.alloc (.cells #[.int .i64 B.hours, .slice va B.towns.length vtc, .slice vl B.links.length vlc, .slice vp B.pairs.length vpc] 89)).cell? ⟨w2.heap.size, 2, none⟩ = some (.slice vl B.links.length vlc) := by simp
   have q3 : (w2.alloc (.cells #[.int .i64 B.hours, .slice va B.towns.length vtc, .slice vl B.links.length vlc, .slice vp B.pairs.length vpc] 89)).cell? ⟨w2.heap.size, 3, none⟩ = some (.slice vp B.pairs.length vpc) := by simp
   have HBC : Hid (Below w.heap.size w (w2.alloc (.cells #[.int .i64 B.hours, .slice va B.towns.length vtc, .slice vl B.links.length vlc, .slice vp B.pairs.length vpc] 89))) := lH ((HBw'.out.trans (HB2.out.mono HBw'.out.size)).trans (hbC.mono (HBw'.out.trans (HB2.out.mono HBw'.out.size)).size))
   have HOC := lH (HO2.out.below hbC)
   clear hbC d0 d1 d2 d3
   generalize w2.alloc (.cells #[.int .i64 B.hours, .slice va B.towns.length vtc, .slice vl B.links.length vlc, .slice vp B.pairs.length vpc] 89) = W3 at *
   generalize w2.heap.size = b10 at *
   have HS : Hid (∀ u, Below W3.heap.size W3 u -> Below W3.heap.size W3 u /\ (u.cell? ⟨b10, 0, none⟩ = some (.int .i64 B.hours) /\ u.cell? ⟨b10, 1, none⟩ = some (.slice va B.towns.length vtc) /\ u.cell? ⟨b10, 2, none⟩ = some (.slice vl B.links.length vlc) /\ u.cell? ⟨b10, 3, none⟩ = some (.slice vp B.pairs.length vpc)) /\ (u.cell? ⟨b8, 0, none⟩ = some (.int .i64 B.hours) /\ u.cell? ⟨b8, 1, none⟩ = some (.slice ta B.towns.length tc) /\ u.cell? ⟨b8, 2, none⟩ = some (.slice la B.links.length lc) /\ u.cell? ⟨b8, 3, none⟩ = some (.slice pa B.pairs.length pc))) := lH fun u hu =>
    ⟨hu, ⟨cell_below hu q0 (nR _), cell_below hu q1 (nR _), cell_below hu q2 (nR _), cell_below hu q3 (nR _)⟩, cell_below hu p0 (nR _), cell_below hu p1 (nR _), cell_below hu p2 (nR _), cell_below hu p3 (nR _)⟩
   have H1 : Hid (∀ u, Below W3.heap.size W3 u -> Calls tP 79 #[.agg #[.int .i64 B.hours, .slice va B.towns.length vtc, .slice vl B.links.length vlc, .slice vp B.pairs.length vpc], .func (.func 80) #[.agg #[.int .i64 B.hours, .slice va B.towns.length vtc, .slice vl B.links.length vlc, .slice vp B.pairs.length vpc]] #[]] u fun e u' => ∃ fa fc, e = .returned (.agg #[.slice (some ⟨fa, 0, none⟩) (bestOf B2 anyF).1.length fc, .int .i64 (bestOf B2 anyF).2]) /\ Hid (0 <= (bestOf B2 anyF).2 /\ (bestOf B2 anyF).2 <= 17820) /\ Below W3.heap.size W3 u') := lH fun u hu => by
    have hO := HOC.out.below hu
    have hb := best_any ⟨va, vl, vp, vtc, vlc, vpc⟩ B2 HG2.out u (hO.inn (small_of HG2.out)) (Hv.out.below (HBC.out.trans (hu.mono HBC.out.size)))
    rw [Hval.out] at hb
    refine hb.mono ?_
    rintro e u' ⟨fa, fc, rfl, _, _, g3, _, g5⟩
    exact ⟨fa, fc, rfl, lH g3, hu.trans (g5.mono hu.size)⟩
   have H2 : Hid (∀ u, Below W3.heap.size W3 u -> Calls tP 79 #[.agg #[.int .i64 B.hours, .slice ta B.towns.length tc, .slice la B.links.length lc, .slice pa B.pairs.length pc], .func (.func 80) #[.agg #[.int .i64 B.hours, .slice ta B.towns.length tc, .slice la B.links.length lc, .slice pa B.pairs.length pc]] #[]] u fun e u' => ∃ fa fc, e = .returned (.agg #[.slice (some ⟨fa, 0, none⟩) (bestOf B anyF).1.length fc, .int .i64 (bestOf B anyF).2]) /\ Hid (0 <= (bestOf B anyF).2 /\ (bestOf B anyF).2 <= 17820) /\ Below W3.heap.size W3 u') := lH fun u hu => by
    have hwu := HBC.out.trans (hu.mono HBC.out.size)
    refine (best_any ⟨ta, la, pa, tc, lc, pc⟩ B HG.out u (Hs.out.below hwu (nR _)) (Hv.out.below hwu)).mono ?_
    rintro e u' ⟨fa, fc, rfl, _, _, g3, _, g5⟩
    exact ⟨fa, fc, rfl, lH g3, hu.trans (g5.mono hu.size)⟩
   clear hp1
   generalize bestOf B2 anyF = x at *
   generalize bestOf B anyF = y at *
   have hwr : 0 <= x.2 /\ x.2 <= 17820 -> 0 <= y.2 /\ y.2 <= 17820 -> IntKind.wrap .i64 (x.2 - y.2) = x.2 - y.2 := fun h1 h2 => IntWalk.i64_in _ (by omega)
   have Hw := lH hwr
   clear hwr
   have hf121 := field121
   have hstart : Below W3.heap.size W3 W3.drew := (bR _ _).drew
   go_region_held3 (fun w' => Below W3.heap.size W3 w' /\ (w'.cell? ⟨b10, 0, none⟩ = some (.int .i64 B.hours) /\ w'.cell? ⟨b10, 1, none⟩ = some (.slice va B.towns.length vtc) /\ w'.cell? ⟨b10, 2, none⟩ = some (.slice vl B.links.length vlc) /\ w'.cell? ⟨b10, 3, none⟩ = some (.slice vp B.pairs.length vpc)) /\ (w'.cell? ⟨b8, 0, none⟩ = some (.int .i64 B.hours) /\ w'.cell? ⟨b8, 1, none⟩ = some (.slice ta B.towns.length tc) /\ w'.cell? ⟨b8, 2, none⟩ = some (.slice la B.links.length lc) /\ w'.cell? ⟨b8, 3, none⟩ = some (.slice pa B.pairs.length pc)))
    ((refine HS.out _ ?_; with_reducible assumption))
    (first
     | (go_simp; go_at_call 79; (with_reducible refine (H1.out _ hstart).mono ?_); rintro e w1 ⟨fa, fc, rfl, hbd1, hbw1⟩)
     | (go_simp; go_at_call 79; (with_reducible refine (H2.out _ hbw1).mono ?_); rintro e w5 ⟨ga, gc, rfl, hbd2, hbw2⟩; have hwr := Hw.out hbd1.out hbd2.out))
   all_goals
    have Hfin : Hid (Below w.heap.size w w5) := lH (HBC.out.trans (hbw2.mono HBC.out.size))
    clear hbd1 hbd2
    go_wp2
    refine bodyPost_ret (v := .tuple #[.int .i64 (x.2 - y.2), .int .i64 0]) (by simp [results, Tryd.results42, go_sem]) rfl ⟨by rw [HE2.out], Hfin.out⟩
 | _ => exact hq.elim
noncomputable def afR1 : Code := match Tryd.f45.body with
 | some (.seq _ (.seq c _)) => c
 | _ => .skip
def AfP (v0 : Value) (ta la pa : Option Addr) (tc lc pc : Nat) (B : Bk) (i n : Int) (w W : World) (h' : Int) (ta' la' pa' : Option Addr) (tc' lc' pc' n1 n2 n3 : Nat) (al : Int) (a : Act) (w' : World) : Prop :=
 ∃ b8, a = ⟨#[v0, .int .i64 i, .int .i64 n, .pointer (some ⟨w.heap.size, 0, none⟩), ud, ud, .int .i64 0, .int .i64 0, .pointer (some ⟨b8, 0, none⟩), .int .i64 al, ud, ud, ud, ud, ud, .tuple #[.agg #[.int .i64 h', .slice ta' n1 tc', .slice la' n2 lc', .slice pa' n3 pc'], .int .i64 al], .agg #[.int .i64 B.hours, .slice ta B.towns.length tc, .slice la B.links.length lc, .slice pa B.pairs.length pc], .agg #[.int .i64 B.hours, .slice ta B.towns.length tc, .slice la B.links.length lc, .slice pa B.pairs.length pc], .int .i64 i, .bool true, .tuple #[.agg #[.int .i64 h', .slice ta' n1 tc', .slice la' n2 lc', .slice pa' n3 pc'], .int .i64 al], .agg #[.int .i64 h', .slice ta' n1 tc', .slice la' n2 lc', .slice pa' n3 pc'], .int .i64 al, ud, ud, ud, ud, ud, ud, ud, ud, ud, ud, ud, ud, ud, ud, ud, ud, ud, ud, ud, ud, ud, ud, ud, ud, ud, ud, ud, ud, ud, ud, ud, ud, ud, ud, ud, ud, ud, ud, ud, ud, ud, ud, ud, ud, ud, ud, ud, ud, ud, ud, ud], []⟩ /\ W.heap.size <= b8 /\ Below W.heap.size W w' /\ Row4 w' b8 (.int .i64 h') (.slice ta' n1 tc') (.slice la' n2 lc') (.slice pa' n3 pc')
set_option maxHeartbeats 4000000 in
theorem af_r1 (ta la pa : Option Addr) (tc lc pc : Nat) (B : Bk) (i n : Int) (hi : btw i 0 ((B.pairs.length : Int) - 1) = true) (w W : World) (v0 : Value) (hs : BkIn w ⟨ta, la, pa, tc, lc, pc⟩ B) (hv : Vars w) (HBW : Hid (Below w.heap.size w W))
  (k0 : W.cell? ⟨w.heap.size, 0, none⟩ = some (.int .i64 B.hours)) (k1 : W.cell? ⟨w.heap.size, 1, none⟩ = some (.slice ta B.towns.length tc)) (k2 : W.cell? ⟨w.heap.size, 2, none⟩ = some (.slice la B.links.length lc)) (k3 : W.cell? ⟨w.heap.size, 3, none⟩ = some (.slice pa B.pairs.length pc))
  (h' : Int) (ta' la' pa' : Option Addr) (tc' lc' pc' n1 n2 n3 : Nat) (al : Int) (hres : resB ⟨ta, la, pa, tc, lc, pc⟩ B B.alarm = .tuple #[.agg #[.int .i64 h', .slice ta' n1 tc', .slice la' n2 lc', .slice pa' n3 pc'], .int .i64 al]) :
  afR1.wp tP (Exit.then (AfP v0 ta la pa tc lc pc B i n w W h' ta' la' pa' tc' lc' pc' n1 n2 n3 al) Gone) ⟨#[v0, .int .i64 i, .int .i64 n, .pointer (some ⟨w.heap.size, 0, none⟩), ud, ud, .int .i64 0, .int .i64 0, ud, ud, ud, ud, ud, ud, ud, ud, ud, ud, ud, ud, ud, ud, ud, ud, ud, ud, ud, ud, ud, ud, ud, ud, ud, ud, ud, ud, ud, ud, ud, ud, ud, ud, ud, ud, ud, ud, ud, ud, ud, ud, ud, ud, ud, ud, ud, ud, ud, ud, ud, ud, ud, ud, ud, ud, ud, ud, ud, ud, ud, ud, ud, ud, ud, ud], []⟩ W := by
 have Hs := lH hs
 have Hv := lH hv
 have HC : Hid (∀ u, Below W.heap.size W u -> Below W.heap.size W u /\ u.cell? ⟨w.heap.size, 0, none⟩ = some (.int .i64 B.hours) /\ u.cell? ⟨w.heap.size, 1, none⟩ = some (.slice ta B.towns.length tc) /\ u.cell? ⟨w.heap.size, 2, none⟩ = some (.slice la B.links.length lc) /\ u.cell? ⟨w.heap.size, 3, none⟩ = some (.slice pa B.pairs.length pc)) := lH fun u h =>
  ⟨h, cell_below h k0 (nR _), cell_below h k1 (nR _), cell_below h k2 (nR _), cell_below h k3 (nR _)⟩
 have H0 : Hid (∀ u, Below W.heap.size W u -> Calls tP 83 #[.agg #[.int .i64 B.hours, .slice ta B.towns.length tc, .slice la B.links.length lc, .slice pa B.pairs.length pc], .int .i64 i] u fun e u' => e = .returned (.bool true) /\ KeepR W u u') := lH fun u hu => (c83 ⟨ta, la, pa, tc, lc, pc⟩ B i u Hs.out.np).mono fun _ _ h => ⟨by rw [h.1, hi], keepR hu h.2⟩
 have HB : Hid (∀ u, Below W.heap.size W u -> Calls tP 78 #[.agg #[.int .i64 B.hours, .slice ta B.towns.length tc, .slice la B.links.length lc, .slice pa B.pairs.length pc], .bool true] u fun e u' => e = .returned (.tuple #[.agg #[.int .i64 h', .slice ta' n1 tc', .slice la' n2 lc', .slice pa' n3 pc'], .int .i64 al]) /\ KeepR W u u') := lH fun u hu => by
  have hwu := HBW.out.trans (hu.mono HBW.out.size)
  refine (c78 ⟨ta, la, pa, tc, lc, pc⟩ B true u (Hs.out.below hwu (nR _)) (Hv.out.v2.below hwu (nR _))).mono ?_
  rintro e u' ⟨rfl, hb⟩
  exact ⟨by rw [openA_true, hres], keepR hu hb⟩
 clear hres hs hv hi
 have HD : Hid (Below W.heap.size W W.drew) := lH (bR _ _).drew
 have HDA : Hid (∀ o, Below W.heap.size W ((W.alloc o).drew)) := lH fun o => (below_alloc (bR _ _)).drew
 simp only [afR1, Tryd.f45]
 go_region_held3 (fun w' => Below W.heap.size W w' /\ w'.cell? ⟨w.heap.size, 0, none⟩ = some (.int .i64 B.hours) /\ w'.cell? ⟨w.heap.size, 1, none⟩ = some (.slice ta B.towns.length tc) /\ w'.cell? ⟨w.heap.size, 2, none⟩ = some (.slice la B.links.length lc) /\ w'.cell? ⟨w.heap.size, 3, none⟩ = some (.slice pa B.pairs.length pc))
  ((refine HC.out _ ?_; go_split_ands; repeat (first | with_reducible assumption | with_reducible exact bR _ _ | with_reducible refine below_alloc ?_ | with_reducible refine Below.drew ?_ | with_reducible refine Below.setCell ?_ ?_ _ | (focus (simp; done)) | (focus (simp; omega)) | (focus omega))))
  (first
   | (go_simp; go_at_call 83; go_split_ands; (with_reducible refine (H0.out _ ?_).mono ?_); (with_reducible assumption); rintro e w0 ⟨rfl, hk0⟩; have hzz := hk0.1.out.size; have hbz' := hk0.1.out; (try (refine keep_have2 (zero4_keep (b := W.heap.size) hk0 ?_) ?_; (focus (first | with_reducible assumption | with_reducible exact zero4_new _ | with_reducible exact zero4_newd _)); intro hz4)))
   | (go_simp; go_at_call 78; go_split_ands; (with_reducible refine (HB.out _ ?_).mono ?_); (with_reducible assumption); rintro e w2 ⟨rfl, hk2⟩; have hzv := hk2.1.out.size; have hbv' := hk2.1.out; (try (refine keep_have2 (zero4_keep (b := W.heap.size) hk2 ?_) ?_; (focus (first | with_reducible assumption | with_reducible exact zero4_new _ | with_reducible exact zero4_newd _)); intro hz4)); (try (refine keep_have2 (zero4_keep (b := w0.heap.size) hk2 ?_) ?_; (focus (first | with_reducible assumption | with_reducible exact zero4_new _ | with_reducible exact zero4_newd _)); intro hz4)); (try (obtain ⟨⟨r0, r1, r2, r3⟩, g0, g1, g2, g3⟩ := hz4))))
 all_goals
  go_split_ands
  refine ⟨_, rfl, ?_, ?_, row4_of ?_ ?_ ?_ ?_ ?_ ?_ ?_ ?_⟩
  ·first
    | exact nR _
    | with_reducible assumption
  ·with_reducible assumption
  all_goals first
   | (go_simp; done)
   | (go_simp; refine World.cell?_setCell_same' _ _ _ ?_; go_simp; done)
def hoursOf (B : Bk) : List Int := (List.range B.hours.toNat).map fun k : Nat => (k : Int)
def stopA (B : Bk) (i : Nat) (lim : Int) (n : Nat) : Bool := !(gtr i ((n : Int) + 1) (hoursOf B) B).2 || decide (lim < (bestOf (gtr i ((n : Int) + 1) (hoursOf B) B).1 anyF).2)
def affD (B : Bk) (i : Nat) (lim : Int) : Nat -> Nat -> Nat
 | 0, n => n
 | f + 1, n => if stopA B i lim n then n else affD B i lim f (n + 1)
def affV (B : Bk) (i : Nat) (lim : Int) : Value :=
 if B.alarm ≠ 0 then .tuple #[.int .i64 0, .int .i64 B.alarm]
 else if btw lim 0 9999 = false then .tuple #[.int .i64 0, .int .i64 1]
 else if lim < (bestOf B anyF).2 then .tuple #[.int .i64 0, .int .i64 9]
 else .tuple #[.int .i64 ((affD B i lim 5 0 : Nat) : Int), .int .i64 0]
theorem affD_stop {B : Bk} {i : Nat} {lim : Int} {n : Nat} (h : n < 5) (hs : stopA B i lim n = true) : affD B i lim (5 - n) n = n := by
 rw [show 5 - n = (5 - (n + 1)) + 1 by omega, affD, if_pos hs]
theorem affD_go {B : Bk} {i : Nat} {lim : Int} {n : Nat} (h : n < 5) (hs : ¬ stopA B i lim n = true) : affD B i lim (5 - n) n = affD B i lim (5 - (n + 1)) (n + 1) := by
 rw [show 5 - n = (5 - (n + 1)) + 1 by omega, affD, if_neg hs]
theorem ints_range (k : Nat) : ints ((List.range (k + 1)).map fun j : Nat => (j : Int)) = ints ((List.range k).map fun j : Nat => (j : Int)) ++ [.int .i64 (k : Int)] := by
 unfold ints
 rw [List.range_succ, List.map_append, List.map_append]; rfl
theorem hoursOf_len (B : Bk) : (hoursOf B).length = B.hours.toNat := by simp [hoursOf]
theorem hoursOf_mem {B : Bk} {x : Int} (h : x ∈ hoursOf B) : 0 <= x /\ x < B.hours := by
 unfold hoursOf at h
 simp only [List.mem_map, List.mem_range] at h
 obtain ⟨k, hk, rfl⟩ := h
 omega
set_option maxHeartbeats 4000000 in
theorem c45_ok (V : BkV) (B : Bk) (i : Nat) (lim : Int) (w : World) (hs : BkIn w V B) (hv : Vars w) (hpc : V.pa = none -> V.pc = 0) (hi : i < B.pairs.length) (h0 : B.alarm = 0) (hb1 : btw lim 0 9999 = true) :
  Calls tP 45 #[V.val B, .int .i64 (i : Int), .int .i64 lim] w fun e w' => e = .returned (affV B i lim) /\ Below w.heap.size w w' := by
 obtain ⟨ta, la, pa, tc, lc, pc⟩ := V
 have hbi : btw (i : Int) 0 ((B.pairs.length : Int) - 1) = true := by unfold btw; simp; omega
 have hres : resB ⟨ta, la, pa, tc, lc, pc⟩ B B.alarm = .tuple #[.agg #[.int .i64 B.hours, .slice ta B.towns.length tc, .slice la B.links.length lc, .slice pa B.pairs.length pc], .int .i64 0] := by rw [h0]; rfl
 have HE : Hid (affV B i lim = (if lim < (bestOf B anyF).2 then .tuple #[.int .i64 0, .int .i64 9] else .tuple #[.int .i64 ((affD B i lim 5 0 : Nat) : Int), .int .i64 0])) := lH (by unfold affV; rw [if_neg (by simp [h0]), if_neg (by simp [hb1])])
 have HG := lH (good_of_alarm h0)
 obtain ⟨i0, hi3, hz0, hz1, hz2⟩ := info_parts info3
 have Hi := lH hi
 have Hlim := lH hb1
 have Hs := lH hs
 have Hv := lH hv
 have Hpc := lH hpc
 have Hres := lH hres
 have Hbi := lH hbi
 have Hhh : Hid (1 <= B.hours /\ B.hours <= 3) := lH HG.out.fine.hours
 clear hs hv hpc hres hbi h0 hi hb1
 go_enter Tryd.func45, Tryd.ntmps45
 go_wp2_with fail
 generalize hWd : w.alloc (.cells #[.int .i64 B.hours, .slice ta B.towns.length tc, .slice la B.links.length lc, .slice pa B.pairs.length pc] 26) = W
 have HBW : Hid (Below w.heap.size w W) := lH (by subst hWd; exact (bR _ _).alloc (nR _) _)
 have k0 : W.cell? ⟨w.heap.size, 0, none⟩ = some (.int .i64 B.hours) := by subst hWd; go_simp
 have k1 : W.cell? ⟨w.heap.size, 1, none⟩ = some (.slice ta B.towns.length tc) := by subst hWd; go_simp
 have k2 : W.cell? ⟨w.heap.size, 2, none⟩ = some (.slice la B.links.length lc) := by subst hWd; go_simp
 have k3 : W.cell? ⟨w.heap.size, 3, none⟩ = some (.slice pa B.pairs.length pc) := by subst hWd; go_simp
 clear hWd
 refine Code.wp_mono ?_ (af_r1 ta la pa tc lc pc B (i : Int) lim Hbi.out w W _ Hs.out Hv.out HBW k0 k1 k2 k3 B.hours ta la pa tc lc pc B.towns.length B.links.length B.pairs.length 0 Hres.out)
 rintro e a w' hq
 cases e with
 | normal =>
  obtain ⟨b8, rfl, hb8, hbel, hrow⟩ := hq
  have HBw' : Hid (Below w.heap.size w w') := lH (HBW.out.trans (hbel.mono HBW.out.size))
  obtain ⟨z8, c0, c1, c2, c3, _, _, _, _⟩ := hrow
  have m0 := cell_below hbel k0 (nR _)
  clear k0 k1 k2 k3 hbel
  go_wp2_with fail
  refine (c69 lim 0 9999 _).mono ?_
  rintro e w0 ⟨rfl, rfl⟩
  rw [Hlim.out]
  have hf121 := field121
  go_wp2_with fail
  refine (best_any ⟨ta, la, pa, tc, lc, pc⟩ B HG.out _ (Hs.out.below HBw'.out (nR _)) (Hv.out.below HBw'.out)).mono ?_
  rintro e w2 ⟨fa, fc, rfl, _, _, g3, _, g5⟩
  have Hg3 := lH g3
  have HB2 : Hid (Below w.heap.size w w2) := lH (HBw'.out.trans (g5.mono HBw'.out.size))
  have d0 := cell_below g5 c0 (nR _)
  have d1 := cell_below g5 c1 (nR _)
  have d2 := cell_below g5 c2 (nR _)
  have d3 := cell_below g5 c3 (nR _)
  have n0 := cell_below g5 m0 (nR _)
  clear c0 c1 c2 c3 m0 g3 g5 z8 hb8
  by_cases hgt : lim < (bestOf B anyF).2
  ·have HE2 : Hid (affV B i lim = .tuple #[.int .i64 0, .int .i64 9]) := lH (by rw [HE.out, if_pos hgt])
   generalize bestOf B anyF = x at *
   go_wp2
   refine bodyPost_ret (v := .tuple #[.int .i64 0, .int .i64 9]) (by simp [results, Tryd.results45, go_sem]) rfl ⟨by rw [HE2.out], HB2.out⟩
  ·have HE2 : Hid (affV B i lim = .tuple #[.int .i64 ((affD B i lim 5 0 : Nat) : Int), .int .i64 0]) := lH (by rw [HE.out, if_neg hgt])
   generalize bestOf B anyF = x at *
   go_wp2_with fail
   go_loopw [10, 41] (fun v j wr => ∃ k : Nat, k <= B.hours.toNat /\ j = .int .i64 (k : Int) /\ wr.ownsRow w2.heap.size 3 1 v k (ints ((List.range k).map fun j : Nat => (j : Int))) /\ Below w2.heap.size w2 wr) (fun _ j _ => B.hours.toNat - (intOf j).toNat)
   case atStart => exact ⟨0, Nat.zero_le _, rfl, World.ownsRow_nil _ _ _ _, bR _ _⟩
   case round =>
    obtain ⟨k, hk, rfl, hown, hb⟩ := hrel
    have n1 := cell_below hb n0 (nR _)
    have Hown := lH hown
    have Hb := lH hb
    clear hown hb
    by_cases hlt : (k : Int) < B.hours
    ·go_wp2_with (at_builtin; refine wpList_append_own _ rfl _ _ 27 rfl w2.heap.size 3 i0 (.int .i64 0) 1 8 Tryd.underlying27 hi3 hz0 hz1 hz2 rfl (by decide) _ _ _ rfl (Hown.out.alloc _) ⟨wr.heap.size, 0, none⟩ 1 1 [.int .i64 (k : Int)] rfl rfl ?c1 ?c2 ?c3 ?c4 ?c5 ?_)
     case c1 =>
      intro j u hj
      match j, hj with
      | 0, hj => simp at hj; subst hj; simp [Addr.add]
     case c2 => intro u hu; simp at hu; subst hu; rfl
     case c3 => have := Hhh.out; unfold maxLen; omega
     case c4 => have := Hhh.out; omega
     case c5 => have := Hb.out.size; simp; omega
     intro v' w4 hown' hgrow _
     have R := own_more Hb.out Hown.out hown' hgrow
     rw [<- ints_range] at R
     have HR := lH R
     clear hown' hgrow R
     have hk2 : k + 1 <= B.hours.toNat := by omega
     have hk3 : (k : Int) + 1 <= 3 := by have := Hhh.out; omega
     go_wp2
     go_roundw
     case rel => exact ⟨k + 1, hk2, by go_num, HR.out.1, HR.out.2⟩
     case measure => simp [intOf]; omega
    ·have hke : k = B.hours.toNat := by omega
     have Hl1 : Hid (1 <= (hoursOf B).length) := lH (by rw [hoursOf_len]; have := Hhh.out; omega)
     have hown2 : wr.ownsRow w2.heap.size 3 1 u10 (hoursOf B).length (ints (hoursOf B)) := by
      have := Hown.out
      rw [hke] at this
      rw [hoursOf_len]
      exact this
     obtain ⟨ob, cap, rfl, hob1, hob2, hsl, hcap, hcap2⟩ := sl_of_own hown2 Hl1.out
     have HSl := lH hsl
     have HBr := lH (HB2.out.trans (Hb.out.mono HB2.out.size))
     have e0 := cell_below Hb.out d0 (nR _)
     have e1 := cell_below Hb.out d1 (nR _)
     have e2 := cell_below Hb.out d2 (nR _)
     have e3 := cell_below Hb.out d3 (nR _)
     have HE4 := lH (And.intro e0 (And.intro e1 (And.intro e2 e3)))
     clear hown2 hsl hke n0 n1 d0 d1 d2 d3 e0 e1 e2 e3 hob1 hob2 hcap hcap2 Hown Hb hk
     obtain ⟨wA, hwA⟩ : ∃ wA, wA = wr := ⟨wr, rfl⟩
     subst hwA
     go_wp2_with fail
     go_loopw [12] (fun v ws => ∃ n : Nat, n <= 5 /\ v = .int .i64 (n : Int) /\ affD B i lim 5 0 = affD B i lim (5 - n) n /\ Below wA.heap.size wA ws) (fun v _ => 5 - (intOf v).toNat)
     case atStart => exact ⟨0, Nat.zero_le _, rfl, rfl, bR _ _⟩
     case round =>
      obtain ⟨n, hn, rfl, haff, hb⟩ := hrel
      have Haff := lH haff
      have Hb := lH hb
      have e0 := cell_below hb HE4.out.1 (nR _)
      have e1 := cell_below hb HE4.out.2.1 (nR _)
      have e2 := cell_below hb HE4.out.2.2.1 (nR _)
      have e3 := cell_below hb HE4.out.2.2.2 (nR _)
      have HBs : Hid (Below w.heap.size w wr) := lH (HBr.out.trans (hb.mono HBr.out.size))
      clear haff hb
      by_cases hlt : n < 5
      ·have hlt' : (n : Int) < 5 := by omega
       have hn0 : (0 : Int) <= (n : Int) := Int.natCast_nonneg _
       have HC84 := lH (c84 ⟨ta, la, pa, tc, lc, pc⟩ B HG.out i Hi.out ((n : Int) + 1) (by omega) (hoursOf B) (some ⟨ob, 0, none⟩) cap wr (Hs.out.below HBs.out (nR _)) Hpc.out (HSl.out.below Hb.out (nR _)) (by rw [hoursOf_len]; have := Hhh.out; omega) (fun x hx => hoursOf_mem hx))
       go_wp2_with fail
       refine HC84.out.mono ?_
       rintro e w4 ⟨⟨va, vl, vp, vtc, vlc, vpc⟩, O, rfl, hO, hb4⟩
       have HB4 := lH hb4
       have HO := lH hO
       clear hb4 hO HC84
       have HSt : Hid (stopA B i lim n = (!(gtr i ((n : Int) + 1) (hoursOf B) B).2 || decide (lim < (bestOf (gtr i ((n : Int) + 1) (hoursOf B) B).1 anyF).2))) := lH rfl
       cases hok : (gtr i ((n : Int) + 1) (hoursOf B) B).2 with
       | false =>
        have HF : Hid (affD B i lim 5 0 = n) := lH (by rw [Haff.out]; exact affD_stop hlt (by rw [HSt.out, hok]; rfl))
        clear hok
        go_wp2
        refine bodyPost_ret (v := .tuple #[.int .i64 (n : Int), .int .i64 0]) (by simp [results, Tryd.results45, go_sem]) rfl ⟨by rw [HE2.out, HF.out], ?_⟩
        exact (HBs.out.trans (HB4.out.mono HBs.out.size)).trans ((bR _ _).alloc (HBs.out.trans (HB4.out.mono HBs.out.size)).size _)
       | true =>
        have HO2 := lH (HO.out hok)
        have HG2 := lH (gtr_good i _ _ B HG.out hok)
        obtain ⟨f1, f2, f3, f4⟩ := gtr_shape i ((n : Int) + 1) (hoursOf B) B
        have Hval : Hid (∀ V : BkV, V.val (gtr i ((n : Int) + 1) (hoursOf B) B).1 = V.val B) := lH fun V => by simp only [BkV.val, f1, f2, f3, f4]
        rw [hok, Bool.not_true, Bool.false_or] at HSt
        clear f1 f2 f3 f4 hok HO
        generalize (gtr i ((n : Int) + 1) (hoursOf B) B).1 = B2 at *
        go_wp2_with fail
        have hbC : Below w4.heap.size w4 (w4.alloc (.cells #[.int .i64 B.hours, .slice va B.towns.length vtc, .slice vl B.links.length vlc, .slice vp B.pairs.length vpc] 89)) := (bR _ _).alloc (nR _) _
        have HBC := lH ((HBs.out.trans (HB4.out.mono HBs.out.size)).trans (hbC.mono (HBs.out.trans (HB4.out.mono HBs.out.size)).size))
        have hbest := best_any ⟨va, vl, vp, vtc, vlc, vpc⟩ B2 HG2.out _ ((HO2.out.below hbC).inn (small_of HG2.out)) (Hv.out.below HBC.out)
        rw [Hval.out] at hbest
        have Hbest := lH hbest
        clear hbest hbC
        refine Hbest.out.mono ?_
        rintro e w5 ⟨ga, gc, rfl, _, _, g3, _, g5⟩
        have Hg3' := lH g3
        have HB5 : Hid (Below w.heap.size w w5) := lH (HBC.out.trans (g5.mono HBC.out.size))
        have HB6 : Hid (Below wA.heap.size wA w5) := lH ((Hb.out.trans ((HB4.out.trans (((bR _ _).alloc (nR _) _ : Below w4.heap.size w4 (w4.alloc (.cells #[.int .i64 B.hours, .slice va B.towns.length vtc, .slice vl B.links.length vlc, .slice vp B.pairs.length vpc] 89))).mono HB4.out.size)).mono Hb.out.size)).trans (g5.mono (by have h1 := Hb.out.size; have h2 := HB4.out.size; simp; omega)))
        clear g3 g5 Hbest
        by_cases hgt2 : lim < (bestOf B2 anyF).2
        ·have HF : Hid (affD B i lim 5 0 = n) := lH (by rw [Haff.out]; exact affD_stop hlt (by rw [HSt.out]; simpa using hgt2))
         generalize bestOf B2 anyF = y at *
         go_wp2
         refine bodyPost_ret (v := .tuple #[.int .i64 (n : Int), .int .i64 0]) (by simp [results, Tryd.results45, go_sem]) rfl ⟨by rw [HE2.out, HF.out], HB5.out⟩
        ·have HF : Hid (affD B i lim 5 0 = affD B i lim (5 - (n + 1)) (n + 1)) := lH (by rw [Haff.out]; exact affD_go hlt (by rw [HSt.out]; simpa using hgt2))
         generalize bestOf B2 anyF = y at *
         go_wp2
         go_roundw
         case rel => exact ⟨n + 1, by omega, by go_num, HF.out, HB6.out⟩
         case measure => simp [intOf]; omega
      ·have hlt' : ¬ (n : Int) < 5 := by omega
       have HF : Hid (affD B i lim 5 0 = n) := lH (by rw [Haff.out, show 5 - n = 0 by omega]; rfl)
       go_wp2
       refine bodyPost_ret (v := .tuple #[.int .i64 (n : Int), .int .i64 0]) (by simp [results, Tryd.results45, go_sem]) rfl ⟨by rw [HE2.out, HF.out], HBs.out⟩
 | _ => exact hq.elim
end Go.Proofs.YtaikibfkggglgaaDoor
