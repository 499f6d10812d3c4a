/- A part of the proof of RentMoreTrunks; no conditions of its own. -/
import Derived.Test.YtaikibfkggglgaaDoorX16
import Derived.Maps.Views
import Derived.Lib.SliceRun
import Derived.Lib.AppendZeros
set_option maxRecDepth 100000
open Nat renaming le_refl → nR
open Go.Lib renaming hid → lH
open Go.RowKit.Below renaming refl → bR
open Go.Proofs.Tryd renaming prog → tP
open List renaming getElem?_eq_getElem → lG
open List renaming getElem?_eq_some_iff → lS
open List renaming getD_eq_getElem?_getD → lD
open Nat renaming lt_of_lt_of_le → nL
namespace Go.Proofs.YtaikibfkggglgaaDoor
open Go.RowKit Go.Rent Go.Tp Go.Conc
def fitsB (B : Bk) (xs cs : List Int) : Bool := decide (B.lack (B.load (trk xs) (trk cs)) (trk xs) < 0)
def fitsV (B : Bk) (xs cs : List Int) : Value :=
 if rentedA B xs true = 0 then (if cs.length = B.pairs.length then (if badCall cs = true then .tuple #[.bool false, .int .i64 1] else .tuple #[.bool (fitsB B xs cs), .int .i64 0]) else .tuple #[.bool false, .int .i64 2]) else .tuple #[.bool false, .int .i64 (rentedA B xs true)]
theorem cl_bd {l : List Int} (h : badCall l = false) (k : Nat) : 0 <= trk l k /\ trk l k <= 5 := by
 unfold badCall at h
 rw [List.any_eq_false] at h
 unfold trk
 rw [lD]
 cases e : l[k]? with
 | none => simp
 | some x =>
  have := h x (List.mem_of_getElem? e)
  simp only [Bool.not_eq_true', Bool.not_eq_false] at this
  have := btw_t this
  simpa using this
theorem sl_at {w : World} {xs : List Int} {xa : Option Addr} (hx : SlI w xa xs) {k : Nat} (hk : k < xs.length) : ∃ tb tofs, xa = some ⟨tb, tofs, none⟩ /\ w.cell? ⟨tb, tofs + k, none⟩ = some (.int .i64 (trk xs k)) := by
 have hk' : xs[k]? = some xs[k] := lG hk
 obtain ⟨b, o, e2, h3⟩ := hx k _ hk'
 have : trk xs k = xs[k] := by
  unfold trk
  rw [lD, hk']
  rfl
 exact ⟨b, o, e2, by rw [this]; exact h3⟩
theorem fits_keep {w w' w'' : World} {b b5 : Nat} {v0 v1 v2 v3 v5 : Value} (hb : Below w'.heap.size w' w'') (h : Below w.heap.size w w') (c0 : w'.cell? ⟨b, 0, none⟩ = some v0) (c1 : w'.cell? ⟨b, 1, none⟩ = some v1) (c2 : w'.cell? ⟨b, 2, none⟩ = some v2) (c3 : w'.cell? ⟨b, 3, none⟩ = some v3) (c5 : w'.cell? ⟨b5, 0, none⟩ = some v5) :
  Below w.heap.size w w'' /\ w''.cell? ⟨b, 0, none⟩ = some v0 /\ w''.cell? ⟨b, 1, none⟩ = some v1 /\ w''.cell? ⟨b, 2, none⟩ = some v2 /\ w''.cell? ⟨b, 3, none⟩ = some v3 /\ w''.cell? ⟨b5, 0, none⟩ = some v5 :=
 ⟨h.trans (hb.mono h.size), cell_below hb c0 (nR _), cell_below hb c1 (nR _), cell_below hb c2 (nR _), cell_below hb c3 (nR _), cell_below hb c5 (nR _)⟩
set_option maxHeartbeats 2000000 in
theorem c23 (V : BkV) (B : Bk) (xs cs : List Int) (xa ca : Option Addr) (xc cc : Nat) (w : World) (hs : BkIn w V B) (hv : Vars w) (hx : SlI w xa xs) (hxl : xs.length <= 1000000) (hc : SlI w ca cs) (hcl : cs.length <= 1000000) :
  Calls tP 23 #[V.val B, .slice xa xs.length xc, .slice ca cs.length cc] w fun e w' => e = .returned (fitsV B xs cs) /\ Below w.heap.size w w' := by
 obtain ⟨ta, la, pa, tc, lc, pc⟩ := V
 have hb0 : ∀ o1 o2 : Obj, Below w.heap.size w ((w.alloc o1).alloc o2) := fun o1 o2 => ((bR _ _).alloc (nR _) _).alloc (by simp) _
 have HC : Hid (∀ o1 o2 : Obj, _) := lH (fun o1 o2 => c55 ⟨ta, la, pa, tc, lc, pc⟩ B xs xa xc true _ (hs.below (hb0 o1 o2) (nR _)) (hv.v2.below (hb0 o1 o2) (nR _)) (hx.below (hb0 o1 o2) (nR _)) hxl)
 have HB0 := lH hb0
 have HCs := lH hc
 by_cases hok : rentedA B xs true = 0
 ·by_cases hlen : cs.length = B.pairs.length
  ·cases hbad : badCall cs with
   | true =>
    have HE := lH (show fitsV B xs cs = .tuple #[.bool false, .int .i64 1] by unfold fitsV; rw [if_pos hok, if_pos hlen, if_pos hbad])
    have hne1 : ((cs.length : Int) != (B.pairs.length : Int)) = false := by simp [hlen]
    have hne2 : (cs.length != B.pairs.length) = false := by simp [hlen]
    clear hs hv hx hb0 hc hlen
    go_enter Tryd.func23, Tryd.ntmps23
    go_wp2_with fail
    refine (HC.out _ _).mono ?_
    rintro e w1 ⟨rfl, hb1⟩
    rw [hok, resB_ok]
    have Hbw := lH ((HB0.out _ _).trans (hb1.mono (by simp; omega)))
    have hz : w.heap.size + 1 < w1.heap.size := by have := hb1.size; simp at this; omega
    have c3 : (w1.alloc (.cells #[.int .i64 B.hours, .slice ta B.towns.length tc, .slice la B.links.length lc, .slice pa B.pairs.length pc] 89)).cell? ⟨w.heap.size, 3, none⟩ = some (.slice pa B.pairs.length pc) := by
     rw [(bcell ((bR _ _).alloc (nR _) _)).1 _ _ (by omega), (bcell hb1).1 _ _ (by simp; omega)]; go_simp
    have c5 : (w1.alloc (.cells #[.int .i64 B.hours, .slice ta B.towns.length tc, .slice la B.links.length lc, .slice pa B.pairs.length pc] 89)).cell? ⟨w.heap.size + 1, 0, none⟩ = some (.slice ca cs.length cc) := by
     rw [(bcell ((bR _ _).alloc (nR _) _)).1 _ _ (by omega), (bcell hb1).1 _ _ (by simp)]; go_simp
    clear hb1 HC
    go_wp2_with fail
    have hb2 : ∀ o : Obj, Below w.heap.size w (w1.alloc o) := fun o => Hbw.out.alloc Hbw.out.size o
    refine (c67_calls cs ca _ cc _ rfl (HCs.out.below (hb2 _) (nR _)) hcl).mono ?_
    rintro e w2 ⟨rfl, hb3⟩
    rw [hbad]
    have Hb3 := lH ((hb2 _).trans (hb3.mono (hb2 _).size))
    clear hb2 hb3
    go_wp2
    go_ret2
    exact ⟨by rw [HE.out]; rfl, Hb3.out⟩
   | false =>
    obtain ⟨h0, h1, h2⟩ := rented_ok hok
    have hG := good_of_alarm h0
    have hF := hG.fine
    have hl := hF.links
    have ht := hF.towns
    unfold Bk.spokes at hl
    obtain ⟨tb, tofs, rfl, hT⟩ := tr_of hx h1 (by omega) h2
    have HE := lH (show fitsV B xs cs = .tuple #[.bool (decide (B.lack (B.load (trk xs) (trk cs)) (trk xs) < 0)), .int .i64 0] by unfold fitsV fitsB; rw [if_pos hok, if_pos hlen, if_neg (by rw [hbad]; decide)])
    have H71 : Hid (∀ W, Below w.heap.size w W -> W.cell? ⟨w.heap.size + 1, 0, none⟩ = some (.slice ca cs.length cc) -> Calls tP 71 #[.agg #[.int .i64 B.hours, .slice ta B.towns.length tc, .slice la B.links.length lc, .slice pa B.pairs.length pc], .slice (some ⟨tb, tofs, none⟩) B.links.length xc, .func (.func 72) #[] #[.pointer (some ⟨w.heap.size + 1, 0, none⟩)]] W fun e w' => e = .returned (ldv (B.load (trk xs) (trk cs))) /\ Below W.heap.size W w') := lH (fun W hW hb => c71_fits ⟨ta, la, pa, tc, lc, pc⟩ B hF tb tofs xc (trk xs) (trk cs) _ W (hs.at.below hW (nR _)) (hT.below hW (nR _)).get hT.pos (fun i _ => cl_bd hbad i) (fun i w1 hi hb1 => by
     obtain ⟨sb, so, rfl, hx1⟩ := sl_at (hc.below (hW.trans (hb1.mono hW.size)) (nR _)) (k := i) (by omega)
     refine (c72 i (w.heap.size + 1) sb so cs.length cc (trk cs i) w1 (by omega) (cell_below hb1 hb (nR _)) hx1).mono ?_
     rintro e w' ⟨rfl, rfl⟩
     exact ⟨rfl, bR _ _⟩))
    generalize B.load (trk xs) (trk cs) = l at *
    have H70 : Hid (∀ W, Below w.heap.size w W -> Calls tP 70 #[.agg #[.int .i64 B.hours, .slice ta B.towns.length tc, .slice la B.links.length lc, .slice pa B.pairs.length pc], ldv l, .slice (some ⟨tb, tofs, none⟩) B.links.length xc] W fun e w' => e = .returned (.int .i64 (B.lack l (trk xs))) /\ Below W.heap.size W w') := lH (fun W hW => c70 ⟨ta, la, pa, tc, lc, pc⟩ B hF l tb tofs xc (trk xs) W (hT.below hW (nR _)))
    generalize B.lack l (trk xs) = y at *
    have hne1 : ((cs.length : Int) != (B.pairs.length : Int)) = false := by simp [hlen]
    have hne2 : (cs.length != B.pairs.length) = false := by simp [hlen]
    have H1 := lH h1
    clear hs hv hx hb0 hc hlen h0 h1 h2 hG hF hl ht hT
    go_enter Tryd.func23, Tryd.ntmps23
    go_wp2_with fail
    refine (HC.out _ _).mono ?_
    rintro e w1 ⟨rfl, hb1⟩
    rw [hok, resB_ok, H1.out]
    have Hbw := lH ((HB0.out _ _).trans (hb1.mono (by simp; omega)))
    have hz : w.heap.size + 1 < w1.heap.size := by have := hb1.size; simp at this; omega
    have c3 : (w1.alloc (.cells #[.int .i64 B.hours, .slice ta B.towns.length tc, .slice la B.links.length lc, .slice pa B.pairs.length pc] 89)).cell? ⟨w.heap.size, 3, none⟩ = some (.slice pa B.pairs.length pc) := by
     rw [(bcell ((bR _ _).alloc (nR _) _)).1 _ _ (by omega), (bcell hb1).1 _ _ (by simp; omega)]; go_simp
    have c5 : (w1.alloc (.cells #[.int .i64 B.hours, .slice ta B.towns.length tc, .slice la B.links.length lc, .slice pa B.pairs.length pc] 89)).cell? ⟨w.heap.size + 1, 0, none⟩ = some (.slice ca cs.length cc) := by
     rw [(bcell ((bR _ _).alloc (nR _) _)).1 _ _ (by omega), (bcell hb1).1 _ _ (by simp)]; go_simp
    clear hb1 HC
    go_wp2_with fail
    have hb2 : ∀ o : Obj, Below w.heap.size w (w1.alloc o) := fun o => Hbw.out.alloc Hbw.out.size o
    refine (c67_calls cs ca _ cc _ rfl (HCs.out.below (hb2 _) (nR _)) hcl).mono ?_
    rintro e w2 ⟨rfl, hb3⟩
    rw [hbad]
    have hstart : Below w.heap.size w w2 := (hb2 _).trans (hb3.mono (hb2 _).size)
    have hz2 : w1.heap.size < w2.heap.size := by have := hb3.size; simp at this; omega
    have k5 : w2.cell? ⟨w.heap.size + 1, 0, none⟩ = some (.slice ca cs.length cc) := by rw [(bcell hb3).1 _ _ (by simp; omega)]; exact c5
    have k0 : w2.cell? ⟨w1.heap.size, 0, none⟩ = some (.int .i64 B.hours) := by rw [(bcell hb3).1 _ _ (by simp)]; go_simp
    have k1 : w2.cell? ⟨w1.heap.size, 1, none⟩ = some (.slice ta B.towns.length tc) := by rw [(bcell hb3).1 _ _ (by simp)]; go_simp
    have k2 : w2.cell? ⟨w1.heap.size, 2, none⟩ = some (.slice la B.links.length lc) := by rw [(bcell hb3).1 _ _ (by simp)]; go_simp
    have k3 : w2.cell? ⟨w1.heap.size, 3, none⟩ = some (.slice pa B.pairs.length pc) := by rw [(bcell hb3).1 _ _ (by simp)]; go_simp
    have Hst := lH hstart
    clear hb2 hb3 c3 c5 hstart Hbw
    go_wp2_with fail
    have hstart : Below w.heap.size w w2.drew := Hst.out.drew
    go_region_held3 (fun w' => Below w.heap.size w w' /\ w'.cell? ⟨w1.heap.size, 0, none⟩ = some (.int .i64 B.hours) /\ w'.cell? ⟨w1.heap.size, 1, none⟩ = some (.slice ta B.towns.length tc) /\ w'.cell? ⟨w1.heap.size, 2, none⟩ = some (.slice la B.links.length lc) /\ w'.cell? ⟨w1.heap.size, 3, none⟩ = some (.slice pa B.pairs.length pc) /\ w'.cell? ⟨w.heap.size + 1, 0, none⟩ = some (.slice ca cs.length cc))
     (first
      | exact ⟨hstart, k0, k1, k2, k3, k5⟩
      | (go_split_ands; exact fits_keep (by assumption) (by assumption) (by assumption) (by assumption) (by assumption) (by assumption) (by assumption)))
     (first
      | (go_simp; go_at_call 71; go_split_ands; (with_reducible refine (H71.out _ (by assumption) (by assumption)).mono ?_); rintro e w1 ⟨rfl, hbel⟩)
      | (go_simp; go_at_call 70; go_split_ands; (with_reducible refine (H70.out _ (by assumption)).mono ?_); rintro e w1 ⟨rfl, hbel⟩))
    go_split_ands
    have Hfin : Hid (Below w.heap.size w w1) := lH (by assumption)
    go_wp2
    go_ret2
    exact ⟨by rw [HE.out]; rfl, Hfin.out⟩
  ·have HE := lH (show fitsV B xs cs = .tuple #[.bool false, .int .i64 2] by unfold fitsV; rw [if_pos hok, if_neg hlen])
   have hne1 : ((cs.length : Int) != (B.pairs.length : Int)) = true := by simp; omega
   have hne2 : (cs.length != B.pairs.length) = true := by simp [hlen]
   clear hs hv hx hb0 hc hlen
   go_enter Tryd.func23, Tryd.ntmps23
   go_wp2_with fail
   refine (HC.out _ _).mono ?_
   rintro e w1 ⟨rfl, hb1⟩
   rw [hok, resB_ok]
   have Hbw := lH ((HB0.out _ _).trans (hb1.mono (by simp; omega)))
   have hz : w.heap.size + 1 < w1.heap.size := by have := hb1.size; simp at this; omega
   have c3 : (w1.alloc (.cells #[.int .i64 B.hours, .slice ta B.towns.length tc, .slice la B.links.length lc, .slice pa B.pairs.length pc] 89)).cell? ⟨w.heap.size, 3, none⟩ = some (.slice pa B.pairs.length pc) := by
    rw [(bcell ((bR _ _).alloc (nR _) _)).1 _ _ (by omega), (bcell hb1).1 _ _ (by simp; omega)]; go_simp
   have c5 : (w1.alloc (.cells #[.int .i64 B.hours, .slice ta B.towns.length tc, .slice la B.links.length lc, .slice pa B.pairs.length pc] 89)).cell? ⟨w.heap.size + 1, 0, none⟩ = some (.slice ca cs.length cc) := by
    rw [(bcell ((bR _ _).alloc (nR _) _)).1 _ _ (by omega), (bcell hb1).1 _ _ (by simp)]; go_simp
   clear hb1 HC
   go_wp2
   go_ret2
   exact ⟨by rw [HE.out]; rfl, Hbw.out.alloc Hbw.out.size _⟩
 ·have HE := lH (show fitsV B xs cs = .tuple #[.bool false, .int .i64 (rentedA B xs true)] by unfold fitsV; rw [if_neg hok])
  clear hs hv hx hb0 hc
  generalize rentedA B xs true = al at *
  go_enter Tryd.func23, Tryd.ntmps23
  go_wp2_with fail
  refine (HC.out _ _).mono ?_
  rintro e w1 ⟨rfl, hb1⟩
  rw [resB_bad hok]
  have Hbw := lH ((HB0.out _ _).trans (hb1.mono (by simp; omega)))
  clear hb1 HC
  go_wp2
  go_ret2
  exact ⟨by rw [HE.out]; rfl, Hbw.out.alloc Hbw.out.size _⟩
def adv (st : List (Int × Int)) (n : Int) : Nat -> Nat -> Nat
 | 0, s => s
 | f + 1, s => match st[s + 1]? with
  | some x => if x.1 <= n then adv st n f (s + 1) else s
  | none => s
def priceAt (st : List (Int × Int)) (s : Nat) : Int := ((st[s]?).map (·.2)).getD 0
def costTo (st : List (Int × Int)) : Nat -> Int × Nat
 | 0 => (0, 0)
 | m + 1 => let s := adv st ((m : Int) + 1) (st.length - (costTo st m).2) (costTo st m).2
  ((costTo st m).1 + priceAt st s, s)
theorem adv_lt (st : List (Int × Int)) (n : Int) : ∀ f s, s < st.length -> adv st n f s < st.length
 | 0, s, h => h
 | f + 1, s, h => by
  unfold adv
  cases e : st[s + 1]? with
  | none => exact h
  | some x =>
   dsimp only
   split
   ·exact adv_lt st n f (s + 1) (lS.1 e).1
   ·exact h
theorem adv_hit {st : List (Int × Int)} {n : Int} {s : Nat} {x : Int × Int} (e : st[s + 1]? = some x) (h : x.1 <= n) : adv st n (st.length - s) s = adv st n (st.length - (s + 1)) (s + 1) := by
 have hl := (lS.1 e).1
 obtain ⟨m, hm⟩ : ∃ m, st.length - s = m + 1 := ⟨st.length - s - 1, by omega⟩
 rw [hm, adv, e]
 dsimp only
 rw [if_pos h, show st.length - (s + 1) = m by omega]
theorem adv_stop {st : List (Int × Int)} {n : Int} {s : Nat} {x : Int × Int} (e : st[s + 1]? = some x) (h : ¬ x.1 <= n) : adv st n (st.length - s) s = s := by
 have hl := (lS.1 e).1
 obtain ⟨m, hm⟩ : ∃ m, st.length - s = m + 1 := ⟨st.length - s - 1, by omega⟩
 rw [hm, adv, e]
 dsimp only
 rw [if_neg h]
theorem adv_end {st : List (Int × Int)} {n : Int} {s : Nat} (h : st.length <= s + 1) : adv st n (st.length - s) s = s := by
 cases hm : st.length - s with
 | zero => rfl
 | succ m => rw [adv, List.getElem?_eq_none h]
theorem price_bd {st : List (Int × Int)} (hp : ∀ x ∈ st, 0 <= x.2 /\ x.2 <= 99) (s : Nat) : 0 <= priceAt st s /\ priceAt st s <= 99 := by
 unfold priceAt
 cases e : st[s]? with
 | none => simp
 | some x => simpa using hp x (List.mem_of_getElem? e)
theorem costTo_bd {st : List (Int × Int)} (hp : ∀ x ∈ st, 0 <= x.2 /\ x.2 <= 99) (h1 : 1 <= st.length) : ∀ m, 0 <= (costTo st m).1 /\ (costTo st m).1 <= 99 * m /\ (costTo st m).2 < st.length
 | 0 => by simp [costTo]; omega
 | m + 1 => by
  obtain ⟨a, b, c⟩ := costTo_bd hp h1 m
  have hs := adv_lt st ((m : Int) + 1) (st.length - (costTo st m).2) _ c
  have := price_bd hp (adv st ((m : Int) + 1) (st.length - (costTo st m).2) (costTo st m).2)
  unfold costTo
  dsimp only
  refine ⟨by omega, by omega, hs⟩
set_option maxHeartbeats 1000000 in
theorem c106 (st : List (Int × Int)) (sa : Option Addr) (cap : Nat) (one two : Int) (n : Nat) (w : World) (hs : SlB w sa st) (h1 : 1 <= st.length) (h3 : st.length <= 1000000) (hp : ∀ x ∈ st, 0 <= x.2 /\ x.2 <= 99) (hn : n <= 1000) :
  Calls tP 106 #[.agg #[.int .i64 one, .int .i64 two, .slice sa st.length cap], .int .i64 (n : Int)] w fun e w' => e = .returned (.int .i64 (costTo st n).1) /\ Below w.heap.size w w' := by
 have Hs := lH hs
 have Hp := lH hp
 clear hs hp
 go_enter Tryd.func106, Tryd.ntmps106
 go_wp2_with fail
 generalize hWd : w.alloc (.cells #[.int .i64 one, .int .i64 two, .slice sa st.length cap] 79) = W
 have hc2 : W.cell? ⟨w.heap.size, 2, none⟩ = some (.slice sa st.length cap) := by subst hWd; go_simp
 have hBW : Below w.heap.size w W := by subst hWd; exact (bR _ _).alloc (nR _) _
 have HsW := lH (Hs.out.below hBW (nR _))
 have HBW := lH hBW
 clear hWd hBW Hs
 go_loopw [5, 6, 7] (fun b s i wr => ∃ m : Nat, m <= n /\ i = .int .i64 ((m : Int) + 1) /\ b = .int .i64 (costTo st m).1 /\ s = .int .i64 ((costTo st m).2 : Int) /\ wr = W) (fun _ _ i _ => n + 1 - (intOf i).toNat)
 case atStart => exact ⟨0, Nat.zero_le _, rfl, rfl, rfl, rfl⟩
 case round =>
  obtain ⟨m, hm, rfl, rfl, rfl, rfl⟩ := hrel
  by_cases hlt : m < n
  ·have hlt' : (m : Int) + 1 <= (n : Int) := by omega
   obtain ⟨bd0, bd1, bd2⟩ := costTo_bd Hp.out h1 m
   have HS : Hid (costTo st (m + 1) = ((costTo st m).1 + priceAt st (adv st ((m : Int) + 1) (st.length - (costTo st m).2) (costTo st m).2), adv st ((m : Int) + 1) (st.length - (costTo st m).2) (costTo st m).2)) := lH rfl
   generalize (costTo st m).1 = bill at *
   generalize (costTo st m).2 = s0 at *
   go_wp2_with fail
   go_loopw [6] (fun i wr2 => ∃ s : Nat, s < st.length /\ i = .int .i64 (s : Int) /\ adv st ((m : Int) + 1) (st.length - s0) s0 = adv st ((m : Int) + 1) (st.length - s) s /\ wr2 = wr) (fun i _ => st.length - (intOf i).toNat)
   case atStart => exact ⟨s0, bd2, rfl, rfl, rfl⟩
   case round =>
    obtain ⟨s, hsl, rfl, hadv, rfl⟩ := hrel
    have HA := lH hadv
    clear hadv
    by_cases hs1 : s + 1 < st.length
    ·have hx : st[s + 1]? = some st[s + 1] := lG hs1
     obtain ⟨b, o, rfl, g0, g1⟩ := HsW.out (s + 1) _ hx
     have Hx := lH hx
     generalize st[s + 1] = x at *
     clear hx
     have hs1' : (s : Int) + 1 < (st.length : Int) := by omega
     have hs0' : (0 : Int) <= (s : Int) + 1 := by omega
     have htn : ((s : Int) + 1).toNat = s + 1 := by omega
     by_cases hle : x.1 <= (m : Int) + 1
     ·have HH := lH (HA.out.trans (adv_hit Hx.out hle))
      obtain ⟨x1, x2⟩ := x
      simp only at g0 g1 hle
      go_wp2
      exact ⟨⟨s + 1, hs1, rfl, HH.out, trivial⟩, by simp [intOf]; omega⟩
     ·have HH := lH (HA.out.trans (adv_stop Hx.out hle))
      have hys : st[s]? = some st[s] := lG hsl
      obtain ⟨b2, o2, e2, k0, k1⟩ := HsW.out s _ hys
      cases e2
      have hpr : priceAt st s = st[s].2 := by unfold priceAt; rw [hys]; rfl
      have hpb := price_bd Hp.out s
      rw [<- hpr] at k1
      have hN : Hid (costTo st (m + 1) = (bill + priceAt st s, s)) := lH (by rw [HS.out, HH.out])
      have hss0 : (0 : Int) <= (s : Int) := Int.natCast_nonneg _
      have hss1 : (s : Int) < (st.length : Int) := by omega
      clear hpr hys k0
      generalize priceAt st s = pr at *
      have hwr : IntKind.wrap .i64 (bill + pr) = bill + pr := IntWalk.i64_in _ (by omega)
      go_wp2
      refine ⟨⟨m + 1, by omega, by go_num, ?_, ?_, trivial⟩, by simp [intOf]; omega⟩
      ·rw [hN.out]
      ·rw [hN.out]
    ·have hs1' : ¬ (s : Int) + 1 < (st.length : Int) := by omega
     have HH := lH (HA.out.trans (adv_end (by omega)))
     have hys : st[s]? = some st[s] := lG hsl
     obtain ⟨b2, o2, e2, k0, k1⟩ := HsW.out s _ hys
     subst e2
     have hpr : priceAt st s = st[s].2 := by unfold priceAt; rw [hys]; rfl
     have hpb := price_bd Hp.out s
     rw [<- hpr] at k1
     have hN : Hid (costTo st (m + 1) = (bill + priceAt st s, s)) := lH (by rw [HS.out, HH.out])
     have hss0 : (0 : Int) <= (s : Int) := Int.natCast_nonneg _
     have hss1 : (s : Int) < (st.length : Int) := by omega
     clear hpr hys k0
     generalize priceAt st s = pr at *
     have hwr : IntKind.wrap .i64 (bill + pr) = bill + pr := IntWalk.i64_in _ (by omega)
     go_wp2
     refine ⟨⟨m + 1, by omega, by go_num, ?_, ?_, trivial⟩, by simp [intOf]; omega⟩
     ·rw [hN.out]
     ·rw [hN.out]
  ·have hme : m = n := by omega
   subst hme
   go_wp2
   go_ret
   exact ⟨rfl, HBW.out⟩
end Go.Proofs.YtaikibfkggglgaaDoor
namespace Go.Proofs.YtaikibfkggglgaaDoor
open Go.RowKit Go.Rent Go.Maps Go.Conc
theorem row153 : (153 : TypeId) < tP.types.size := of_decide_eq_true (by kernel_rfl)
theorem law153 : Keyed tP 153 := Keyed.of_law (deep_law_laid (by kernel_rfl) (m := 2) (by omega) row153 (by kernel_rfl) (by rw [Tryd.underlying153]))
theorem kt153 : tP.keyType 153 = true := by kernel_rfl
theorem co153 : tP.cellsOf 153 = 2 := by kernel_rfl
theorem key153 {a b : Int} (ha : i64ok a) (hb : i64ok b) : keyOf tP 153 (pairV a b) = some (.string (keyBytes [.int .i64 a, .int .i64 b])) :=
 key_pair Tryd.underlying153 Tryd.underlying3 rfl rfl rfl rfl (by decide) (by decide) kt153 co153 co3 (Nat.lt_of_le_of_lt (Nat.zero_le _) row153) ha hb
theorem zero3 (w : World) : (zeroValue 3).run tP w = .ok (.int .i64 0) w := by kernel_rfl
noncomputable abbrev plainI : Value -> Option (DataW Unit × List MemPlace) := plainElem tP 3
def BillP (w : World) (b n : Nat) (C : Int -> Int -> Int) : Prop :=
 ∃ D : DataW Unit, w.ownsMap tP 153 plainI b n D /\ ∀ (x y : Int) (kl : Lit), keyOf tP 153 (pairV x y) = some kl -> Maps.has D kl = true -> D.atKey kl (.lit (.int .i64 0)) = .lit (.int .i64 (C x y))
theorem BillP.made (w : World) (C : Int -> Int -> Int) : BillP (w.alloc (.map #[] 0)) w.heap.size 0 C := ⟨.map [], World.ownsMap_made w _ _ _, fun _ _ _ _ h => by simp [Maps.has] at h⟩
theorem BillP.kept {w w' : World} {b n : Nat} {C : Int -> Int -> Int} (h : BillP w b n C) {row : Option Nat} (hg : w.grownBy w' row) (hne : some b ≠ row) : BillP w' b n C := by
 obtain ⟨D, h1, h2⟩ := h; exact ⟨D, h1.kept hg hne, h2⟩
theorem BillP.below {w w' : World} {b n m : Nat} {C : Int -> Int -> Int} (h : BillP w b n C) (hb : Below m w w') (hm : b < m) : BillP w' b n C := by
 obtain ⟨D, ⟨es, cl, h1, h3⟩, h2⟩ := h; exact ⟨D, ⟨es, cl, by rw [hb.block b hm]; exact h1, h3⟩, h2⟩
theorem BillP.lt {w : World} {b n : Nat} {C : Int -> Int -> Int} (h : BillP w b n C) : b < w.heap.size := by obtain ⟨D, h1, _⟩ := h; exact h1.lt
theorem BillP.mono {w : World} {b n n' : Nat} {C : Int -> Int -> Int} (h : BillP w b n C) (hn : n <= n') : BillP w b n' C := by obtain ⟨D, h1, h2⟩ := h; exact ⟨D, h1.mono hn, h2⟩
theorem BillP.look {w : World} {b n : Nat} {C : Int -> Int -> Int} (h : BillP w b n C) {x y : Int} (hx : i64ok x) (hy : i64ok y) :
  ∃ (c : Int) (t : Bool), (Instr.lookup 123 (.map (some b)) (pairV x y) true).run tP w = .ok (.tuple #[.int .i64 c, .bool t]) w /\ (t = true -> c = C x y) := by
 obtain ⟨D, h1, h2⟩ := h
 obtain ⟨v, ps, hrun, hv⟩ := h1.look_ok law153 Tryd.underlying123 (zero3 w) (plainElem_int Tryd.underlying3 (by decide)) (key153 hx hy)
 obtain ⟨c, rfl, hc, hwc⟩ := plainElem_int_inv Tryd.underlying3 hv
 refine ⟨c, _, hrun, fun ht => ?_⟩
 have := h2 x y _ (key153 hx hy) ht
 have hc1 := congrArg Prod.fst hc
 simp only at hc1
 rw [this] at hc1
 cases hc1; rfl
theorem BillP.update {w : World} {b n : Nat} {C : Int -> Int -> Int} (h : BillP w b n C) (hn : n < maxLen) {x y : Int} (hx : i64ok x) (hy : i64ok y) (hc : i64ok (C x y)) :
  ∃ w', (Instr.mapUpdate 123 (.map (some b)) (pairV x y) (.int .i64 (C x y))).run tP w = .ok () w' /\ BillP w' b (n + 1) C /\ w.grownBy w' (some b) := by
 obtain ⟨D, h1, h2⟩ := h
 obtain ⟨w', hrun, hown, hg⟩ := h1.update law153 Tryd.underlying123 hn (key153 hx hy) (plainElem_int Tryd.underlying3 (wf_i64 hc))
 refine ⟨w', hrun, ⟨_, hown, fun p q kl hkl hh => ?_⟩, hg⟩
 by_cases e : (x == p && y == q) = true
 ·have e' : x = p /\ y = q := by simpa using e
  obtain ⟨rfl, rfl⟩ := e'
  rw [key153 hx hy] at hkl
  cases hkl
  rw [atKey_put_same h1.isMap (law153.key (key153 hx hy))]
 ·have hne : kl ≠ .string (keyBytes [.int .i64 x, .int .i64 y]) := fun e2 => e (by
   subst e2
   have := law153.inj (key153 hx hy) hkl
   simp only [Value.agg.injEq, Array.mk.injEq, List.cons.injEq, Value.int.injEq, true_and, and_true] at this
   simp [this])
  rw [has_put_other hne] at hh
  rw [atKey_put_other hne, h2 p q kl hkl hh]
theorem wpList_look_bill {C : Int -> Int -> Int} {w : World} {ops : Array Oper} {rest : List Oper} {o : Oper} {a : Act} {Q : Exit -> Act -> World -> Prop}
  (hg : o.guard = none) (m x : Operand) (hop : o.op = Op.lookup 123 m x true) (b n : Nat) (hm : a.eval m = .map (some b)) (p q : Int) (hx : a.eval x = pairV p q) (hown : BillP w b n C) (hp : i64ok p) (hq : i64ok q)
  (hT : wpList tP ops Q rest (a.put o.dst (.tuple #[.int .i64 (C p q), .bool true])) w) (hF : ∀ c : Int, wpList tP ops Q rest (a.put o.dst (.tuple #[.int .i64 c, .bool false])) w) : wpList tP ops Q (o :: rest) a w := by
 refine wpList_plain hg fun K' hK' => ?_
 obtain ⟨c, t, hrun, hc⟩ := hown.look hp hq
 unfold Oper.wp
 simp [execOp, hop, hm, hx, hrun, Result.andThen]
 refine hK' _ _ ?_
 cases t with
 | true => rw [hc rfl]; exact hT
 | false => exact hF c
theorem wpList_put_bill {C : Int -> Int -> Int} {w : World} {ops : Array Oper} {rest : List Oper} {o : Oper} {a : Act} {Q : Exit -> Act -> World -> Prop}
  (hg : o.guard = none) (m x v : Operand) (hop : o.op = Op.mapUpdate 123 m x v) (b n : Nat) (hm : a.eval m = .map (some b)) (p q : Int) (hx : a.eval x = pairV p q) (hv : a.eval v = .int .i64 (C p q)) (hown : BillP w b n C) (hn : n < maxLen) (hp : i64ok p) (hq : i64ok q) (hc : i64ok (C p q))
  (hK : ∀ w', BillP w' b (n + 1) C -> w.grownBy w' (some b) -> wpList tP ops Q rest (a.put o.dst undef) w') : wpList tP ops Q (o :: rest) a w := by
 refine wpList_plain hg fun K' hK' => ?_
 obtain ⟨w', hrun, h1, h2⟩ := hown.update hn hp hq hc
 unfold Oper.wp
 simp [execOp, hop, hm, hx, hv, hrun, Result.andThen]
 exact hK' _ _ (hK w' h1 h2)
def costOf (B : Bk) (i t : Int) : Int := (costTo (((B.links[i.toNat]?).map (·.steps)).getD []) t.toNat).1
def costUp (B : Bk) (T : Nat -> Int) : Nat -> Int
 | 0 => 0
 | k + 1 => costUp B T k + costOf B (k : Int) (T k)
theorem c81 (V : BkV) (B : Bk) (w : World) (C : Int -> Int -> Int) : Calls tP 81 #[V.val B] w fun e w' => ∃ mb, e = .returned (.agg #[.int .i64 B.hours, .slice V.ta B.towns.length V.tc, .slice V.la B.links.length V.lc, .slice V.pa B.pairs.length V.pc, .map (some mb)]) /\ w.heap.size <= mb /\ BillP w' mb 0 C /\ Below w.heap.size w w' := by
 obtain ⟨ta, la, pa, tc, lc, pc⟩ := V
 have hmm := @run_makeMap tP
 go_enter Tryd.func81, Tryd.ntmps81
 go_wp2
 refine bodyPost_ret (v := .agg #[.int .i64 B.hours, .slice ta B.towns.length tc, .slice la B.links.length lc, .slice pa B.pairs.length pc, .map (some (w.heap.size + 1 + 1))]) (by simp [results, Tryd.results81, go_sem]) rfl ⟨_, rfl, by omega, ?_, (((bR _ _).alloc (nR _) _).alloc (by simp) _).alloc (by simp; omega) _⟩
 have := BillP.made ((w.alloc (.cells #[.int .i64 B.hours, .slice ta B.towns.length tc, .slice la B.links.length lc, .slice pa B.pairs.length pc] 89)).alloc (.cells #[.int .i64 B.hours, .slice ta B.towns.length tc, .slice la B.links.length lc, .slice pa B.pairs.length pc, .map (some (w.heap.size + 1 + 1))] 125)) C
 simpa using this
theorem steps_price {l : List (Int × Int)} (h : alSteps l = 0) : ∀ x ∈ l, 0 <= x.2 /\ x.2 <= 99 := by
 unfold alSteps at h
 cases hb : btw (l.length : Int) 1 3 with
 | false => rw [hb] at h; cases h
 | true =>
  rw [hb, if_pos rfl] at h
  have key : ∀ (l : List (Int × Int)) (q : Int) (i : Nat), stepsA q i l = 0 -> ∀ x ∈ l, 0 <= x.2 /\ x.2 <= 99 := by
   intro l
   induction l with
   | nil => intro q i _ x hx; cases hx
   | cons y l ih =>
    intro q i h x hx
    unfold stepsA at h
    split at h
    ·cases h
    ·split at h
     ·cases h
     ·rename_i h1 h2
      rcases List.mem_cons.1 hx with rfl | hx
      ·have : btw x.2 0 99 = true := by
        cases e : btw x.2 0 99 with
        | true => rfl
        | false => exact absurd (Or.inr e) h2
       exact btw_t this
      ·exact ih _ _ h x hx
  exact key l 0 0 h
theorem cost_bd {B : Bk} (hB : Good B) (i t : Int) (ht : t <= 30) : 0 <= costOf B i t /\ costOf B i t <= 2970 := by
 unfold costOf
 cases e : B.links[i.toNat]? with
 | none =>
  have : ∀ m, (costTo [] m).1 = 0 := fun m => by
   induction m with
   | zero => rfl
   | succ m ih => unfold costTo; dsimp only; rw [ih]; simp [priceAt]
  simp [this]
 | some L =>
  have hst := (hB.links _ L e).2.2.2
  have := costTo_bd (steps_price hst) (hB.steps _ L e) t.toNat
  simp only [Option.map_some, Option.getD_some]
  omega
def CellsK (w w' : World) : Prop := ∀ b o v, w.cell? ⟨b, o, none⟩ = some v -> w'.cell? ⟨b, o, none⟩ = some v
theorem CellsK.of_below {w w' : World} {n : Nat} (h : Below n w w') (hn : w.heap.size <= n) : CellsK w w' := fun _ _ _ hc => cell_below h hc hn
theorem CellsK.of_grown {w w' : World} {mb n : Nat} {C : Int -> Int -> Int} (h : w.grownBy w' (some mb)) (hm : BillP w mb n C) : CellsK w w' := fun b o v hc => by
 have hne : b ≠ mb := by
  rintro rfl
  obtain ⟨D, ⟨es, cl, h1, _⟩, _⟩ := hm
  simp [World.cell?, h1] at hc
 have hl := World.block_lt_of_cell? w _ hc
 rw [World.cell?_of_block (w := w) (a := ⟨b, o, none⟩) (h.block b hl (by simpa using hne))]
 exact hc
theorem CellsK.trans {a b c : World} (h : CellsK a b) (k : CellsK b c) : CellsK a c := fun _ _ _ hc => k _ _ _ (h _ _ _ hc)
theorem LkAt.cells {w w' : World} {la : Option Addr} {ls : List Lnk} (h : LkAt w la ls) (k : CellsK w w') : LkAt w' la ls := fun i L hi => by
 obtain ⟨b, o, sa, sc, h1, h2, h3, h4, h5, h6⟩ := h i L hi
 exact ⟨b, o, sa, sc, h1, k _ _ _ h2, k _ _ _ h3, k _ _ _ h4, fun j x hj => by obtain ⟨b, o, e, h0, h1⟩ := h5 j x hj; exact ⟨b, o, e, k _ _ _ h0, k _ _ _ h1⟩, h6⟩
theorem SlI.cells {w w' : World} {sa : Option Addr} {xs : List Int} (h : SlI w sa xs) (k : CellsK w w') : SlI w' sa xs := fun i x hx => by
 obtain ⟨b, o, e, h0⟩ := h i x hx
 exact ⟨b, o, e, k _ _ _ h0⟩
theorem grown_below {a w w' : World} {row : Option Nat} (h : a.grownBy w row) (hb : Below w.heap.size w w') : a.grownBy w' row := ⟨hb.os.trans h.os, hb.tape.trans h.tape, hb.output.trans h.output, Nat.le_trans h.size hb.size, fun k hk hne => (hb.block k (nL hk h.size)).trans (h.block k hk hne)⟩
theorem grown_grown {a w w' : World} {row : Option Nat} (h : a.grownBy w row) (hb : w.grownBy w' row) : a.grownBy w' row := ⟨hb.os.trans h.os, hb.tape.trans h.tape, hb.output.trans h.output, Nat.le_trans h.size hb.size, fun k hk hne => (hb.block k (nL hk h.size) hne).trans (h.block k hk hne)⟩
theorem grown_refl (w : World) (row : Option Nat) : w.grownBy w row := ⟨rfl, rfl, rfl, nR _, fun _ _ _ => rfl⟩
theorem costUp_bd {B : Bk} (hB : Good B) {T : Nat -> Int} (hT : ∀ k, 0 <= T k /\ T k <= 30) : ∀ k, 0 <= costUp B T k /\ costUp B T k <= 2970 * k
 | 0 => by simp [costUp]
 | k + 1 => by
  have ih := costUp_bd hB hT k
  have := cost_bd hB (k : Int) (T k) (hT k).2
  unfold costUp
  omega
set_option maxHeartbeats 2000000 in
theorem c82 (V : BkV) (B : Bk) (hB : Good B) (xs : List Int) (xa : Option Addr) (xc mb n : Nat) (w : World) (hs : BkIn w V B) (hx : SlI w xa xs) (hxl : xs.length = B.links.length) (hbx : ∀ k, 0 <= trk xs k /\ trk xs k <= 30) (hn : n + 6 < maxLen) (hm : BillP w mb n (costOf B)) :
  Calls tP 82 #[.agg #[.int .i64 B.hours, .slice V.ta B.towns.length V.tc, .slice V.la B.links.length V.lc, .slice V.pa B.pairs.length V.pc, .map (some mb)], .slice xa xs.length xc] w
   fun e w' => e = .returned (.int .i64 (costUp B (trk xs) xs.length)) /\ BillP w' mb (n + 6) (costOf B) /\ w.grownBy w' (some mb) := by
 obtain ⟨ta, la, pa, tc, lc, pc⟩ := V
 have HB := lH hB
 have HS := lH hs
 have HX := lH hx
 have HM := lH hm
 have Hbx := lH hbx
 have Hl := lH hB.fine.links
 have Ht := lH hB.fine.towns
 have HXL := lH hxl
 rw [hxl]
 clear hB hs hx hm hbx hxl
 go_enter Tryd.func82, Tryd.ntmps82
 go_wp2_with fail
 generalize hWd : w.alloc (.cells #[.int .i64 B.hours, .slice ta B.towns.length tc, .slice la B.links.length lc, .slice pa B.pairs.length pc, .map (some mb)] 125) = W
 have hBW : Below w.heap.size w W := by subst hWd; exact (bR _ _).alloc (nR _) _
 have hc0 : W.cell? ⟨w.heap.size, 2, none⟩ = some (.slice la B.links.length lc) /\ W.cell? ⟨w.heap.size, 4, none⟩ = some (.map (some mb)) := by subst hWd; exact ⟨by go_simp, by go_simp⟩
 have HC0 := lH hc0
 have HMW := lH (HM.out.below hBW HM.out.lt)
 have HKW := lH (CellsK.of_below hBW (nR _))
 have HBW := lH hBW
 clear hWd hBW hc0
 go_loopw [5, 13] (fun b i wr => ∃ k : Nat, k <= B.links.length /\ i = .int .i64 (k : Int) /\ b = .int .i64 (costUp B (trk xs) k) /\ BillP wr mb (n + k) (costOf B) /\ W.grownBy wr (some mb)) (fun _ i _ => B.links.length - (intOf i).toNat)
 case atStart => exact ⟨0, Nat.zero_le _, rfl, rfl, HMW.out, grown_refl _ _⟩
 case round =>
  obtain ⟨k, hk, rfl, rfl, hbill, hgr⟩ := hrel
  have HBl := lH hbill
  have HGr := lH hgr
  clear hbill hgr
  by_cases hlt : k < B.links.length
  ·have hck := CellsK.of_grown HGr.out HMW.out
   have hk0 := hck _ _ _ HC0.out.1
   have hk4 := hck _ _ _ HC0.out.2
   obtain ⟨tb, tofs, rfl, htk⟩ := sl_at (HX.out.cells (HKW.out.trans hck)) (k := k) (by rw [HXL.out]; exact hlt)
   have hL : B.links[k]? = some B.links[k] := lG hlt
   obtain ⟨lb, lo, sa, sc, rfl, g0, g1, g2, g3, g4⟩ := (HS.out.links.cells (HKW.out.trans hck)) k _ hL
   have hco : ∀ t : Int, costOf B (k : Int) t = (costTo (B.links[k]).steps t.toNat).1 := fun t => by unfold costOf; rw [Int.toNat_natCast, hL]; rfl
   obtain ⟨t, ht⟩ : ∃ t : Nat, trk xs k = (t : Int) := ⟨(trk xs k).toNat, by have := Hbx.out k; omega⟩
   have hst := (HB.out.links _ _ hL).2.2.2
   have hs1 := HB.out.steps _ _ hL
   have ht20 : t <= 30 := by have := Hbx.out k; omega
   have HUp : Hid (costUp B (trk xs) (k + 1) = costUp B (trk xs) k + costOf B (k : Int) (t : Int)) := lH (by rw [<- ht]; rfl)
   have hco1 := hco t
   rw [Int.toNat_natCast] at hco1
   have HCo := lH hco1
   have Hcb := lH (cost_bd HB.out (k : Int) (t : Int) (by omega))
   have Hub := lH (costUp_bd HB.out Hbx.out k)
   have Hpr := lH (steps_price hst)
   have Hs1 := lH hs1
   have Hg3 := lH g3
   have Hg4 := lH g4
   rw [ht] at htk
   clear hst hco hco1 ht g3 g4 hs1
   generalize B.links[k].steps = st at *
   generalize B.links[k].one = l1 at *
   generalize B.links[k].two = l2 at *
   clear hL
   have ik : i64ok (k : Int) := by unfold i64ok; have := Hl.out; omega
   have it : i64ok (t : Int) := by unfold i64ok; omega
   have Hik := lH ik
   have Hit := lH it
   have hb1 : ∀ o : Obj, Below wr.heap.size wr (wr.alloc o) := fun o => (bR _ _).alloc (nR _) _
   have Hb1 := lH hb1
   have hkk := CellsK.of_below (hb1 (.cells #[.int .i64 (k : Int), .int .i64 (t : Int)] 153)) (nR _)
   have j0 := hkk _ _ _ hk0
   have j4 := hkk _ _ _ hk4
   have e0 := hkk _ _ _ g0
   have e1 := hkk _ _ _ g1
   have e2 := hkk _ _ _ g2
   clear ik it hb1 hck hkk hk0 hk4 g0 g1 g2
   have HWd := HUp.out
   generalize hcv : costOf B (k : Int) (t : Int) = cv at *
   generalize hup : costUp B (trk xs) k = up at *
   have hk6 : k < 6 := by have := Hl.out; omega
   obtain ⟨cb0, cb1⟩ := Hcb.out
   have ub0 : 0 <= up := Hub.out.1
   have ub1 : up <= 17820 := by have := Hub.out.2; omega
   have Hcv := lH hcv
   clear hcv hup HWd
   go_wp2_with (at_lookup; refine wpList_look_bill rfl _ _ rfl mb (n + k) rfl (k : Int) (t : Int) rfl (HBl.out.below (Hb1.out _) HBl.out.lt) Hik.out Hit.out ?_ ?_)
   ·rw [Hcv.out]
    go_wp2
    go_roundw
    case rel => exact ⟨k + 1, by omega, by go_num, by rw [HUp.out]; rw [show RowKit.wrap64 (up + cv) = up + cv from IntWalk.wrap64_in _ (by omega)], (HBl.out.below (Hb1.out _) HBl.out.lt).mono (by omega), grown_below HGr.out (Hb1.out _)⟩
    case measure => simp [intOf]; omega
   ·intro c0
    go_wp2_with fail
    have hst2 : SlB (wr.alloc (.cells #[.int .i64 (k : Int), .int .i64 (t : Int)] 153)) sa st := Hg3.out.below (Hb1.out _) (nR _)
    refine (c106 st sa sc l1 l2 t _ hst2 Hs1.out Hg4.out Hpr.out (by omega)).mono ?_
    rintro e w3 ⟨rfl, hb3⟩
    rw [<- HCo.out]
    have j4' := CellsK.of_below hb3 (nR _) _ _ _ j4
    have kk0 : w3.cell? ⟨wr.heap.size, 0, none⟩ = some (.int .i64 (k : Int)) := CellsK.of_below hb3 (nR _) _ _ _ (by go_simp)
    have kk1 : w3.cell? ⟨wr.heap.size, 1, none⟩ = some (.int .i64 (t : Int)) := CellsK.of_below hb3 (nR _) _ _ _ (by go_simp)
    have HB3 := lH ((HBl.out.below (Hb1.out _) HBl.out.lt).below hb3 (by have := HBl.out.lt; simp; omega))
    have HG3 := lH (grown_below (grown_below HGr.out (Hb1.out _)) hb3)
    have hic : i64ok (costOf B (k : Int) (t : Int)) := by rw [Hcv.out]; unfold i64ok; omega
    have Hic := lH hic
    clear hb3 hic j0 j4 e0 e1 e2 hst2
    have hcv2 : (costTo st t).1 = cv := by rw [<- HCo.out]
    go_wp2_with (at_mapUpdate; refine wpList_put_bill (C := costOf B) rfl _ _ _ rfl mb (n + k) rfl (k : Int) (t : Int) rfl (by rw [Hcv.out]; rfl) HB3.out (by omega) Hik.out Hit.out Hic.out ?_; intro w4 hb4 hg4)
    have HB4 := lH hb4
    have HG4 := lH (grown_grown HG3.out hg4)
    clear hb4 hg4
    go_wp2
    go_roundw
    case rel => exact ⟨k + 1, by omega, by go_num, by rw [HUp.out], HB4.out, HG4.out⟩
    case measure => simp [intOf]; omega
  ·have hke : k = B.links.length := by omega
   subst hke
   go_wp2
   go_ret
   refine ⟨rfl, HBl.out.mono (by have := Hl.out; omega), ?_⟩
   exact ⟨HGr.out.os.trans HBW.out.os, HGr.out.tape.trans HBW.out.tape, HGr.out.output.trans HBW.out.output, Nat.le_trans HBW.out.size HGr.out.size, fun i hi hne => (HGr.out.block i (nL hi HBW.out.size) hne).trans (HBW.out.block i hi)⟩
end Go.Proofs.YtaikibfkggglgaaDoor
namespace Go.Proofs.YtaikibfkggglgaaDoor
open Go.RowKit Go.Rent Go.Tp Go.Conc
def costV (B : Bk) (xs : List Int) : Value := if rentedA B xs true = 0 then .tuple #[.int .i64 (costUp B (trk xs) xs.length), .int .i64 0] else .tuple #[.int .i64 0, .int .i64 (rentedA B xs true)]
theorem below_of_grown {w w1 w2 : World} {mb : Nat} (hb : Below w.heap.size w w1) (hg : w1.grownBy w2 (some mb)) (hm : w.heap.size <= mb) : Below w.heap.size w w2 := hb.grown hg hb.size (fun k hk => by cases hk; exact hm)
set_option maxHeartbeats 2000000 in
theorem c40 (V : BkV) (B : Bk) (xs : List Int) (xa : Option Addr) (xc : Nat) (w : World) (hs : BkIn w V B) (hv : Vars w) (hx : SlI w xa xs) (hxl : xs.length <= 1000000) :
  Calls tP 40 #[V.val B, .slice xa xs.length xc] w fun e w' => e = .returned (costV B xs) /\ Below w.heap.size w w' := by
 obtain ⟨ta, la, pa, tc, lc, pc⟩ := V
 have hb0 : Below w.heap.size w (w.alloc (.cells #[.int .i64 B.hours, .slice ta B.towns.length tc, .slice la B.links.length lc, .slice pa B.pairs.length pc] 26)) := (bR _ _).alloc (nR _) _
 have HC := lH (c55 ⟨ta, la, pa, tc, lc, pc⟩ B xs xa xc true _ (hs.below hb0 (nR _)) (hv.v2.below hb0 (nR _)) (hx.below hb0 (nR _)) hxl)
 have HB0 := lH hb0
 have HS := lH hs
 have HX := lH hx
 by_cases hok : rentedA B xs true = 0
 ·obtain ⟨h0, h1, h2⟩ := rented_ok hok
  have HG := lH (good_of_alarm h0)
  have H1 := lH h1
  have H2 := lH h2
  have HE := lH (show costV B xs = .tuple #[.int .i64 (costUp B (trk xs) xs.length), .int .i64 0] by unfold costV; rw [if_pos hok])
  clear hs hv hx hb0 h0 h1 h2
  go_enter Tryd.func40, Tryd.ntmps40
  go_wp2_with fail
  refine HC.out.mono ?_
  rintro e w1 ⟨rfl, hb1⟩
  rw [hok, resB_ok]
  have Hbw := lH (HB0.out.trans (hb1.mono (by simp)))
  clear hb1 HC
  have hb2 : ∀ o : Obj, Below w.heap.size w (w1.alloc o) := fun o => Hbw.out.alloc Hbw.out.size o
  go_wp2_with fail
  refine (c81 ⟨ta, la, pa, tc, lc, pc⟩ B _ (costOf B)).mono ?_
  rintro e w2 ⟨mb, rfl, hmb, hbill, hb3⟩
  have hb4 := (hb2 _).trans (hb3.mono (hb2 _).size)
  have Hb4 := lH hb4
  have Hmb : Hid (w.heap.size <= mb) := lH (Nat.le_trans (hb2 _).size hmb)
  have HBl := lH hbill
  clear hb2 hb3 hb4 hbill hmb
  go_wp2_with fail
  refine (c82 ⟨ta, la, pa, tc, lc, pc⟩ B HG.out xs xa xc mb 0 w2 (HS.out.below Hb4.out (nR _)) (HX.out.below Hb4.out (nR _)) H1.out (fun k => ⟨(trk_pos H2.out k).1, Int.le_trans (trk_pos H2.out k).2 (by decide)⟩) (by decide) HBl.out).mono ?_
  rintro e w3 ⟨rfl, _, hg⟩
  have Hfin := lH (below_of_grown Hb4.out hg Hmb.out)
  clear hg
  go_wp2
  go_ret2
  exact ⟨by rw [HE.out]; rfl, Hfin.out⟩
 ·have HE := lH (show costV B xs = .tuple #[.int .i64 0, .int .i64 (rentedA B xs true)] by unfold costV; rw [if_neg hok])
  clear hs hv hx hb0
  generalize rentedA B xs true = al at *
  go_enter Tryd.func40, Tryd.ntmps40
  go_wp2_with fail
  refine HC.out.mono ?_
  rintro e w1 ⟨rfl, hb1⟩
  rw [resB_bad hok]
  have Hbw := lH (HB0.out.trans (hb1.mono (by simp)))
  clear hb1
  go_wp2
  go_ret2
  exact ⟨by rw [HE.out]; rfl, Hbw.out.trans ((bR _ _).alloc Hbw.out.size _)⟩
def cmp1 (a b : Int) : Int := if a < b then -1 else if b < a then 1 else 0
def cmpL : List Int -> List Int -> Int
 | [], [] => 0
 | [], _ :: _ => -1
 | _ :: _, [] => 1
 | a :: l, b :: m => if cmp1 a b = 0 then cmpL l m else cmp1 a b
theorem c127 (a : Int) (w : World) : Calls tP 127 #[.int .i64 a] w fun e w' => e = .returned (.bool false) /\ w' = w := by
 have h : (a != a) = false := by simp
 go_enter Tryd.func127, Tryd.ntmps127
 go_wp2
 go_ret
 exact ⟨by simp, rfl⟩
theorem c126 (a b : Int) (w : World) : Calls tP 126 #[.int .i64 a, .int .i64 b] w fun e w' => e = .returned (.int .i64 (cmp1 a b)) /\ w' = w := by
 have HC : Hid (cmp1 a b = if a < b then -1 else if b < a then 1 else 0) := lH rfl
 by_cases h1 : a < b
 ·have HC2 := lH (HC.out.trans (if_pos h1))
  clear HC
  go_enter Tryd.func126, Tryd.ntmps126
  go_wp2_with (go_at_call 127; refine (c127 _ _).mono ?_; rintro e w' ⟨rfl, rfl⟩)
  go_ret
  exact ⟨by rw [HC2.out]; rfl, rfl⟩
 ·by_cases h2 : b < a
  ·have HC2 := lH (HC.out.trans ((if_neg h1).trans (if_pos h2)))
   clear HC
   go_enter Tryd.func126, Tryd.ntmps126
   go_wp2_with (go_at_call 127; refine (c127 _ _).mono ?_; rintro e w' ⟨rfl, rfl⟩)
   go_ret
   exact ⟨by rw [HC2.out]; rfl, rfl⟩
  ·have HC2 := lH (HC.out.trans ((if_neg h1).trans (if_neg h2)))
   clear HC
   go_enter Tryd.func126, Tryd.ntmps126
   go_wp2_with (go_at_call 127; refine (c127 _ _).mono ?_; rintro e w' ⟨rfl, rfl⟩)
   go_ret
   exact ⟨by rw [HC2.out]; rfl, rfl⟩
theorem cmp_long {xs ys : List Int} {k : Nat} (h : k < xs.length) (h2 : ys.length <= k) : cmpL (xs.drop k) (ys.drop k) = 1 := by
 rw [List.drop_eq_getElem_cons h, List.drop_of_length_le h2]; rfl
theorem cmp_step {xs ys : List Int} {k : Nat} (h : k < xs.length) (h2 : k < ys.length) : cmpL (xs.drop k) (ys.drop k) = if cmp1 (trk xs k) (trk ys k) = 0 then cmpL (xs.drop (k + 1)) (ys.drop (k + 1)) else cmp1 (trk xs k) (trk ys k) := by
 have t1 : trk xs k = xs[k] := by unfold trk; rw [lD, lG h]; rfl
 have t2 : trk ys k = ys[k] := by unfold trk; rw [lD, lG h2]; rfl
 rw [t1, t2, List.drop_eq_getElem_cons h, List.drop_eq_getElem_cons h2, cmpL]
theorem cmp_end {xs ys : List Int} {k : Nat} (h : xs.length <= k) (hk : k <= xs.length) : cmpL (xs.drop k) (ys.drop k) = if xs.length < ys.length then -1 else 0 := by
 rw [List.drop_of_length_le h]
 by_cases h2 : xs.length < ys.length
 ·rw [if_pos h2, List.drop_eq_getElem_cons (show k < ys.length by omega)]; rfl
 ·rw [if_neg h2, List.drop_of_length_le (show ys.length <= k by omega)]; rfl
set_option maxHeartbeats 1000000 in
theorem c123 (xs ys : List Int) (xa ya : Option Addr) (xc yc : Nat) (w : World) (hx : SlI w xa xs) (hy : SlI w ya ys) (hxl : xs.length <= 1000000) :
  Calls tP 123 #[.slice xa xs.length xc, .slice ya ys.length yc] w fun e w' => e = .returned (.int .i64 (cmpL xs ys)) /\ w' = w := by
 have HX := lH hx
 have HY := lH hy
 clear hx hy
 go_enter Tryd.func123, Tryd.ntmps123
 go_wp2_with fail
 go_loopw [11] (fun i wr => ∃ k : Nat, k <= xs.length /\ i = .int .i64 (k : Int) /\ cmpL xs ys = cmpL (xs.drop k) (ys.drop k) /\ wr = w) (fun i _ => xs.length - (intOf i).toNat)
 case atStart => exact ⟨0, Nat.zero_le _, rfl, rfl, rfl⟩
 case round =>
  obtain ⟨k, hk, rfl, hfk, rfl⟩ := hrel
  have Hfk := lH hfk
  clear hfk
  by_cases hlt : k < xs.length
  ·obtain ⟨tb, tofs, rfl, htk⟩ := sl_at HX.out hlt
   by_cases hly : k < ys.length
   ·obtain ⟨sb, sofs, rfl, hsk⟩ := sl_at HY.out hly
    have hst := cmp_step hlt hly
    by_cases h0 : cmp1 (trk xs k) (trk ys k) = 0
    ·rw [if_pos h0] at hst
     have HH := lH (Hfk.out.trans hst)
     have H0 := lH h0
     clear hst h0
     generalize trk xs k = a at *
     generalize trk ys k = b at *
     go_wp2_with fail
     refine (c126 a b _).mono ?_
     rintro e w' ⟨rfl, rfl⟩
     rw [H0.out]
     go_wp2
     go_roundw
     case rel => exact ⟨k + 1, by omega, by go_num, HH.out, trivial⟩
     case measure => simp [intOf]; omega
    ·rw [if_neg h0] at hst
     have HH := lH (Hfk.out.trans hst)
     have h0' : (cmp1 (trk xs k) (trk ys k) == 0) = false := by simpa using h0
     clear hst h0
     generalize trk xs k = a at *
     generalize trk ys k = b at *
     generalize hcc : cmp1 a b = c at *
     have Hcc := lH hcc
     clear hcc
     go_wp2_with fail
     refine (c126 a b _).mono ?_
     rintro e w' ⟨rfl, rfl⟩
     rw [Hcc.out]
     go_wp2
     go_ret
     exact ⟨by rw [HH.out]; rfl, rfl⟩
   ·have HH := lH (Hfk.out.trans (cmp_long hlt (by omega)))
    go_wp2
    go_ret
    exact ⟨by rw [HH.out]; rfl, rfl⟩
  ·have HH := lH (Hfk.out.trans (cmp_end (by omega) hk))
   by_cases hly : xs.length < ys.length
   ·have HH2 := lH (HH.out.trans (if_pos hly))
    clear HH
    go_wp2
    go_ret
    exact ⟨by rw [HH2.out]; rfl, rfl⟩
   ·have HH2 := lH (HH.out.trans (if_neg hly))
    clear HH
    go_wp2
    go_ret
    exact ⟨by rw [HH2.out]; rfl, rfl⟩
def cheapC (x y : List Int × Int) : Int := if x.2 = y.2 then cmpL x.1 y.1 else x.2 - y.2
theorem c105 (x y : List Int × Int) (xa ya : Option Addr) (xc yc : Nat) (w : World) (hx : SlI w xa x.1) (hy : SlI w ya y.1) (hxl : x.1.length <= 1000000) (bx : 0 <= x.2 /\ x.2 <= 1000000) (hby : 0 <= y.2 /\ y.2 <= 1000000) :
  Calls tP 105 #[.agg #[.slice xa x.1.length xc, .int .i64 x.2], .agg #[.slice ya y.1.length yc, .int .i64 y.2]] w fun e w' => e = .returned (.int .i64 (cheapC x y)) /\ Below w.heap.size w w' := by
 obtain ⟨xs, p⟩ := x
 obtain ⟨ys, q⟩ := y
 simp only at hx hy hxl bx hby ⊢
 have hb0 : ∀ o1 o2 : Obj, Below w.heap.size w ((w.alloc o1).alloc o2) := fun o1 o2 => ((bR _ _).alloc (nR _) _).alloc (by simp) _
 have HB0 := lH hb0
 by_cases h : p = q
 ·have HE := lH (show cheapC (xs, p) (ys, q) = cmpL xs ys from if_pos h)
  have HX := lH hx
  have HY := lH hy
  have hne : (p != q) = false := by simp [h]
  clear hx hy hb0 h
  go_enter Tryd.func105, Tryd.ntmps105
  go_wp2_with fail
  refine (c123 xs ys xa ya xc yc _ (HX.out.below (HB0.out _ _) (nR _)) (HY.out.below (HB0.out _ _) (nR _)) hxl).mono ?_
  rintro e w' ⟨rfl, rfl⟩
  go_wp2
  go_ret
  exact ⟨by rw [HE.out]; rfl, HB0.out _ _⟩
 ·have HE := lH (show cheapC (xs, p) (ys, q) = p - q from if_neg h)
  have hne : (p != q) = true := by simp [h]
  clear hx hy hb0 h
  go_enter Tryd.func105, Tryd.ntmps105
  go_wp2_with fail
  go_ret
  exact ⟨by rw [HE.out]; rfl, HB0.out _ _⟩
def ints (xs : List Int) : List Value := xs.map (.int .i64)
def OwnR (w : World) (xs : List Int) (e : Ending) (w' : World) : Prop := ∃ v, e = .returned v /\ w'.ownsRow w.heap.size 3 1 v xs.length (ints xs) /\ Below w.heap.size w w'
theorem ints_one {xs : List Int} : ∀ u ∈ ints xs, u.oneCell' = true := fun u hu => by
 unfold ints at hu
 obtain ⟨x, _, rfl⟩ := List.mem_map.1 hu
 rfl
theorem news_of {w : World} {xs : List Int} {ad : Addr} (h : SlI w (some ad) xs) : ∀ (j : Nat) (u : Value), (ints xs)[j]? = some u -> w.cell? (ad.add j) = some u := fun j u hu => by
 unfold ints at hu
 rw [List.getElem?_map] at hu
 cases e : xs[j]? with
 | none => rw [e] at hu; cases hu
 | some x =>
  rw [e] at hu
  cases hu
  obtain ⟨b, o, e2, h0⟩ := h j x e
  cases e2
  by_cases hj : j = 0
  ·subst hj; simpa [Addr.add] using h0
  ·simpa [Addr.add, hj] using h0
set_option maxHeartbeats 1000000 in
theorem c122 (xs : List Int) (xa : Option Addr) (xc : Nat) (w : World) (hx : SlI w xa xs) (hxl : xs.length <= 1000000) (hn : xa = none -> xc = 0) :
  Calls tP 122 #[.slice xa xs.length xc] w (OwnR w xs) := by
 obtain ⟨i0, hi, hz0, hz1, hz2⟩ := info_parts info3
 cases xa with
 | none =>
  have h0 : xs = [] := by
   cases xs with
   | nil => rfl
   | cons x l => obtain ⟨_, _, e, _⟩ := hx 0 x rfl; cases e
  subst h0
  rw [hn rfl]
  have HR : Hid (OwnR w [] (.returned (.slice none 0 0)) w) := lH ⟨_, rfl, World.ownsRow_nil _ _ _ _, bR _ _⟩
  clear hx hxl hn
  have heq := Lib.run_eql_slice_nil w 27 3 none 0 0 0 0 Tryd.underlying27
  go_enter Tryd.func122, Tryd.ntmps122
  go_wp2
  go_ret
  exact HR.out
 | some ad =>
  have HX := lH hx
  clear hx hn
  have heq := Lib.run_eql_slice_nil w 27 3 (some ad) xs.length xc 0 0 Tryd.underlying27
  go_enter Tryd.func122, Tryd.ntmps122
  have hb1 : Below w.heap.size w (w.alloc (.cells #[] 3)) := (bR _ _).alloc (nR _) _
  have HB1 := lH hb1
  have hown : (w.alloc (.cells #[] 3)).ownsRow w.heap.size 3 1 (.slice (some ⟨w.heap.size, 0, none⟩) 0 0) 0 [] := ⟨rfl, .inr ⟨w.heap.size, 0, #[], rfl, nR _, (MapKept.heap_alloc w _).1, nR _, Nat.zero_le _, rfl, rfl⟩⟩
  have Hown := lH hown
  have Hnews := lH (news_of (HX.out.below hb1 (nR _)))
  clear hb1 hown
  go_wp2_with (at_builtin; refine wpList_append_own _ rfl _ _ 27 rfl w.heap.size 3 i0 (.int .i64 0) 1 8 Tryd.underlying27 hi hz0 hz1 hz2 rfl (by decide) _ _ _ rfl Hown.out ad xs.length xc (ints xs) rfl (by simp [ints]) Hnews.out ints_one (by unfold maxLen; omega) (by omega) (by simp) ?_; intro v w1 hown1 hgrow _)
  have HR : Hid (OwnR w xs (.returned v) w1) := lH ⟨v, rfl, by simpa using hown1, HB1.out.grown hgrow HB1.out.size (fun k hk => by cases hk; exact nR _)⟩
  clear hown1 hgrow
  go_wp2
  go_ret
  exact HR.out
set_option maxHeartbeats 1000000 in
theorem c125 (n : Nat) (hn1 : 1 <= n) (hn2 : n <= 1000000) (w : World) :
  Calls tP 125 #[.slice none 0 0, .int .i64 (n : Int)] w fun e w' => ∃ v, e = .returned v /\ w'.ownsRow w.heap.size 3 1 v 0 [] /\ Below w.heap.size w w' := by
 obtain ⟨i0, hi, hz0, hz1, hz2⟩ := info_parts info3
 have hr := Lib.run_append_nil_zeros (P := tP) w 27 3 27 3 i0 (.int .i64 0) .i64 .i64 Tryd.underlying27 Tryd.underlying3 hi hz0 n (by omega) (by omega) (by omega) (by rw [hz2]; omega)
 have hcap := grownCap_ge w n 0 3
 have hcm := grownCap_le_maxLen w n 0 3 (by unfold maxLen; omega)
 generalize grownCap w n 0 3 = cap at *
 have hsz : (Builtin.zeroCells (Value.int .i64 0).cells n ++ Builtin.zeroCells (Value.int .i64 0).cells (cap - n)).size = cap := by
  simp [size_zeroCells, Value.cells]; omega
 generalize Builtin.zeroCells (Value.int .i64 0).cells n ++ Builtin.zeroCells (Value.int .i64 0).cells (cap - n) = cur at *
 have HR := lH hr
 have HO : Hid ((w.drew.alloc (.cells cur 3)).ownsRow w.heap.size 3 1 (.slice (some ⟨w.heap.size, 0, none⟩) 0 cap) 0 []) := lH ⟨rfl, .inr ⟨w.heap.size, cap, cur, rfl, nR _, heap_alloc_new w.drew _, Nat.zero_le _, hcm, by omega, by simp⟩⟩
 have HB : Hid (Below w.heap.size w (w.drew.alloc (.cells cur 3))) := lH ((bR _ _).drew.alloc (nR _) _)
 clear hr
 have hpos : 0 < (n : Int) := by omega
 go_enter Tryd.func125, Tryd.ntmps125
 go_wp2_with (at_builtin; refine Lib.wpList_append_run _ rfl _ _ _ _ rfl _ _ rfl rfl _ _ HR.out ?_)
 go_ret
 exact ⟨_, rfl, HO.out, HB.out⟩
def catLen (n m : Nat) : Nat -> Nat
 | 0 => 0
 | 1 => n
 | _ => n + m
def catTo (xs ys : List Int) : Nat -> List Value
 | 0 => []
 | 1 => ints xs
 | _ => ints xs ++ ints ys
set_option maxHeartbeats 2000000 in
theorem c121 (xs ys : List Int) (sb c : Nat) (xa ya : Addr) (xc yc : Nat) (w : World) (h0 : w.cell? ⟨sb, 0, none⟩ = some (.slice (some xa) xs.length xc)) (h1 : w.cell? ⟨sb, 1, none⟩ = some (.slice (some ya) ys.length yc))
  (hx : SlI w (some xa) xs) (hy : SlI w (some ya) ys) (hl1 : 1 <= xs.length + ys.length) (hl2 : xs.length + ys.length <= 1000) :
  Calls tP 121 #[.slice (some ⟨sb, 0, none⟩) 2 c] w (OwnR w (xs ++ ys)) := by
 obtain ⟨i0, hi, hz0, hz1, hz2⟩ := info_parts info3
 have HX := lH hx
 have HY := lH hy
 have Hc := lH (And.intro h0 h1)
 clear hx hy
 go_enter Tryd.func121, Tryd.ntmps121
 go_wp2_with fail
 go_loopw [3, 11] (fun l i wr => ∃ k : Nat, k <= 2 /\ i = .int .i64 (k : Int) /\ l = .int .i64 (catLen xs.length ys.length k : Int) /\ w = wr) (fun _ i _ => 2 - (intOf i).toNat)
 case atStart => exact ⟨0, by omega, rfl, rfl, rfl⟩
 case round =>
  obtain ⟨k, hk, rfl, rfl, rfl⟩ := hrel
  have hkk : k = 0 \/ k = 1 \/ k = 2 := by omega
  rcases hkk with rfl | rfl | rfl
  ·rw [show catLen xs.length ys.length 0 = 0 from rfl]
   have hp : (0 : Int) <= (xs.length : Int) := Int.natCast_nonneg _
   go_wp2
   exact ⟨⟨1, by omega, rfl, rfl, trivial⟩, by decide⟩
  ·rw [show catLen xs.length ys.length 1 = xs.length from rfl]
   have hp : (0 : Int) <= (xs.length : Int) := Int.natCast_nonneg _
   have hq : (0 : Int) <= (ys.length : Int) := Int.natCast_nonneg _
   go_wp2
   exact ⟨⟨2, by omega, rfl, by show _ = Value.int .i64 ((xs.length + ys.length : Nat) : Int); push_cast; rfl, trivial⟩, by decide⟩
  ·rw [show catLen xs.length ys.length 2 = xs.length + ys.length from rfl]
   generalize hnn : xs.length + ys.length = nn at *
   have Hnn := lH hnn
   clear hnn
   go_wp2_with fail
   refine (c125 nn hl1 (by omega) _).mono ?_
   rintro e w1 ⟨v, rfl, hown, hb⟩
   have Hown := lH hown
   have Hb := lH hb
   have h0' := cell_below hb h0 (nR _)
   have h1' := cell_below hb h1 (nR _)
   clear hown hb
   go_wp2_with fail
   go_loopw [6, 27] (fun v i wr => ∃ k : Nat, k <= 2 /\ i = .int .i64 (k : Int) /\ wr.ownsRow w.heap.size 3 1 v (catLen xs.length ys.length k) (catTo xs ys k) /\ Below w.heap.size w wr) (fun _ i _ => 2 - (intOf i).toNat)
   case atStart => exact ⟨0, by omega, rfl, Hown.out, Hb.out⟩
   case round =>
    obtain ⟨k, hk, rfl, ho2, hb2⟩ := hrel
    have Ho2 := lH ho2
    have Hb2 := lH hb2
    have c0 := cell_below hb2 h0 (nR _)
    have c1 := cell_below hb2 h1 (nR _)
    clear ho2 hb2
    have hkk : k = 0 \/ k = 1 \/ k = 2 := by omega
    rcases hkk with rfl | rfl | rfl
    ·rw [show catLen xs.length ys.length 0 = 0 from rfl, show catTo xs ys 0 = [] from rfl] at Ho2
     have Hnews := lH (news_of (HX.out.below Hb2.out (nR _)))
     go_wp2_with (at_builtin; refine wpList_append_own _ rfl _ _ 27 rfl w.heap.size 3 i0 (.int .i64 0) 1 8 Tryd.underlying27 hi hz0 hz1 hz2 rfl (by decide) _ _ _ rfl Ho2.out xa xs.length xc (ints xs) rfl (by simp [ints]) Hnews.out ints_one (by have := Hnn.out; unfold maxLen; omega) (by have := Hnn.out; omega) Hb2.out.size ?_; intro v3 w3 hown3 hgrow _)
     have HR : Hid (w3.ownsRow w.heap.size 3 1 v3 (catLen xs.length ys.length 1) (catTo xs ys 1) /\ Below w.heap.size w w3) := lH ⟨by simpa [catLen, catTo] using hown3, Hb2.out.grown hgrow Hb2.out.size (fun k hk => (Ho2.out.lt k hk).1)⟩
     clear hown3 hgrow
     go_wp2
     go_roundw
     case rel => exact ⟨1, by omega, by go_num, HR.out.1, HR.out.2⟩
     case measure => simp [intOf]
    ·rw [show catLen xs.length ys.length 1 = xs.length from rfl, show catTo xs ys 1 = ints xs from rfl] at Ho2
     have Hnews := lH (news_of (HY.out.below Hb2.out (nR _)))
     go_wp2_with (at_builtin; refine wpList_append_own _ rfl _ _ 27 rfl w.heap.size 3 i0 (.int .i64 0) 1 8 Tryd.underlying27 hi hz0 hz1 hz2 rfl (by decide) _ _ _ rfl Ho2.out ya ys.length yc (ints ys) rfl (by simp [ints]) Hnews.out ints_one (by have := Hnn.out; unfold maxLen; omega) (by have := Hnn.out; omega) Hb2.out.size ?_; intro v3 w3 hown3 hgrow _)
     have HR : Hid (w3.ownsRow w.heap.size 3 1 v3 (catLen xs.length ys.length 2) (catTo xs ys 2) /\ Below w.heap.size w w3) := lH ⟨by simpa [catLen, catTo] using hown3, Hb2.out.grown hgrow Hb2.out.size (fun k hk => (Ho2.out.lt k hk).1)⟩
     clear hown3 hgrow
     go_wp2
     go_roundw
     case rel => exact ⟨2, by omega, by go_num, HR.out.1, HR.out.2⟩
     case measure => simp [intOf]
    ·have HF : Hid (∀ v, wr.ownsRow w.heap.size 3 1 v (catLen xs.length ys.length 2) (catTo xs ys 2) -> OwnR w (xs ++ ys) (.returned v) wr) := lH fun v h => ⟨v, rfl, by simpa [catLen, catTo, ints] using h, Hb2.out⟩
     go_wp2
     go_ret
     exact HF.out _ Ho2.out
end Go.Proofs.YtaikibfkggglgaaDoor
