/- A part of the proof of RentMoreTrunks; no conditions of its own. -/
import Derived.Test.YtaikibfkggglgaaDoorX02
set_option maxRecDepth 100000
open Nat renaming le_refl → nR
open Go.Lib renaming hid → lH
open Go.RowKit.Below renaming refl → bR
open Go.Proofs.Tryd renaming prog → tP
open List renaming getElem?_eq_getElem → lG
open Array renaming getElem?_eq_some_iff → aS
namespace Go.Proofs.YtaikibfkggglgaaDoor
open Go.RowKit Go.Rent
def badCalls (l : List (Int × Int)) : Bool := l.any fun x => !bandOk x
def pairsA (nt hours : Int) (S : List (Int × Int)) : List Pr -> Int
 | [] => 0
 | x :: l => if btw x.one 0 (nt - 1) = false \/ btw x.two 0 (nt - 1) = false then 6 else if x.two <= x.one then 7 else if memS S x.one x.two then 5 else
  if (x.calls.length : Int) = hours then (if badCalls x.calls then 1 else pairsA nt hours ((x.one, x.two) :: S) l) else 2
def prP (x : Pr) : Int × Int := (x.one, x.two)
def alPairs (nt hours : Int) (ps : List Pr) : Int := if 6 < ps.length then 2 else pairsA nt hours [] ps
theorem pairsA_at {nt hours : Int} {ps : List Pr} {k : Nat} {x : Pr} (h : ps[k]? = some x) : pairsA nt hours (prefS (ps.map prP) k) (ps.drop k) =
  if btw x.one 0 (nt - 1) = false \/ btw x.two 0 (nt - 1) = false then 6 else if x.two <= x.one then 7 else if memS (prefS (ps.map prP) k) x.one x.two then 5 else
  if (x.calls.length : Int) = hours then (if badCalls x.calls then 1 else pairsA nt hours (prefS (ps.map prP) (k + 1)) (ps.drop (k + 1))) else 2 := by
 rw [prefS_succ (p := (x.one, x.two)) (by rw [List.getElem?_map, h]; rfl)]
 obtain ⟨hl, rfl⟩ := List.getElem?_eq_some_iff.1 h
 conv => lhs; rw [List.drop_eq_getElem_cons hl]; unfold pairsA
theorem pairsA_end {nt hours : Int} {ps : List Pr} {k : Nat} {S : List (Int × Int)} (h : ps.length <= k) : pairsA nt hours S (ps.drop k) = 0 := by rw [List.drop_of_length_le h]; rfl
def PrAt (w : World) (pa : Option Addr) (ps : List Pr) : Prop := ∀ (i : Nat) (L : Pr), ps[i]? = some L -> ∃ b o sa sc, pa = some ⟨b, o, none⟩ /\ w.cell? ⟨b, o + i * 3, none⟩ = some (.int .i64 L.one) /\ w.cell? ⟨b, o + i * 3 + 1, none⟩ = some (.int .i64 L.two) /\ w.cell? ⟨b, o + i * 3 + 2, none⟩ = some (.slice sa L.calls.length sc) /\ SlB w sa L.calls /\ L.calls.length <= 1000000
theorem PrAt.below {n : Nat} {w w' : World} {pa : Option Addr} {ps : List Pr} (h : PrAt w pa ps) (hb : Below n w w') (hn : w.heap.size <= n) : PrAt w' pa ps := fun i L hi => by
 obtain ⟨b, o, sa, sc, h1, h2, h3, h4, h5, h6⟩ := h i L hi
 exact ⟨b, o, sa, sc, h1, cell_below hb h2 hn, cell_below hb h3 hn, cell_below hb h4 hn, h5.below hb hn, h6⟩
theorem c154_calls (l : List (Int × Int)) (sa : Option Addr) (n cap : Nat) (w : World) (hn : n = l.length) (hs : SlB w sa l) (hl : l.length <= 1000000) :
  Calls tP 154 #[.slice sa n cap, .func (.func 155) #[] #[]] w fun e w' => e = .returned (.bool (badCalls l)) /\ Below w.heap.size w w' :=
 c154 155 (fun x => !bandOk x) sa l n cap w hn hs hl (cf Tryd.func155 (by rfl) (by rfl)) (fun x w1 _ => c155 x.1 x.2 w1)
set_option maxHeartbeats 2000000 in
theorem c149 (h : Int) (ta : Option Addr) (nt tc : Nat) (la : Option Addr) (ln lc : Nat) (pa : Option Addr) (ps : List Pr) (pc : Nat) (w : World) (hs : PrAt w pa ps) (hl : ps.length <= 1000000) (hnt : nt <= 1000000) :
  Calls tP 149 #[.agg #[.int .i64 h, .slice ta nt tc, .slice la ln lc, .slice pa ps.length pc]] w fun e w' => e = .returned (.int .i64 (alPairs nt h ps)) /\ Below w.heap.size w w' := by
 have Hs := lH hs
 clear hs
 have hntm : nt <= maxLen := by unfold maxLen; omega
 have hmm := @run_makeMap tP
 by_cases h6 : 6 < ps.length
 ·have HH := lH (show alPairs (nt : Int) h ps = 2 by unfold alPairs; rw [if_pos h6])
  have h6' : (6 : Int) < (ps.length : Int) := by omega
  go_enter Tryd.func149, Tryd.ntmps149
  go_wp2
  go_ret
  exact ⟨by rw [HH.out]; rfl, (bR _ _).alloc (nR _) _⟩
 ·have HH := lH (show alPairs (nt : Int) h ps = pairsA nt h [] ps by unfold alPairs; rw [if_neg h6])
  have h6' : ¬ (6 : Int) < (ps.length : Int) := by omega
  go_enter Tryd.func149, Tryd.ntmps149
  go_wp2_with fail
  obtain ⟨w1, hw1⟩ : ∃ w1, w1 = w.alloc (.cells #[.int .i64 h, .slice ta nt tc, .slice la ln lc, .slice pa ps.length pc] 89) := ⟨_, rfl⟩
  have hB1 : BoxB w1 w.heap.size h (.slice ta nt tc) (.slice la ln lc) (.slice pa ps.length pc) := by subst hw1; exact ⟨by simp, by go_simp, by go_simp, by go_simp, by go_simp⟩
  have hbw : Below w.heap.size w w1 := by subst hw1; exact (bR _ _).alloc (nR _) _
  have hz1 : w1.heap.size = w.heap.size + 1 := by subst hw1; simp
  have hset := SetP.made w1
  have hbm : w.heap.size < w1.heap.size := by omega
  have hbw2 := hbw.trans (((bR _ _).alloc (nR _) (.map #[] 0)).mono hbw.size)
  have hB2 : BoxB (w1.alloc (.map #[] 0)) w.heap.size h (.slice ta nt tc) (.slice la ln lc) (.slice pa ps.length pc) := hB1.below ((bR _ _).alloc (nR _) _) hbm
  rw [hz1] at hset hbm
  subst hw1
  generalize (w.alloc (.cells #[.int .i64 h, .slice ta nt tc, .slice la ln lc, .slice pa ps.length pc] 89)).alloc (.map #[] 0) = w2 at *
  generalize w.heap.size + 1 = bm at *
  clear hB1 hbw hz1
  go_loopw [17] (fun i wr => ∃ k : Nat, k <= ps.length /\ i = .int .i64 (k : Int) /\ pairsA nt h [] ps = pairsA nt h (prefS (ps.map prP) k) (ps.drop k) /\ Below w.heap.size w wr /\ BoxB wr w.heap.size h (.slice ta nt tc) (.slice la ln lc) (.slice pa ps.length pc) /\ SetP wr bm k (prefS (ps.map prP) k)) (fun i _ => ps.length - (intOf i).toNat)
  case atStart => exact ⟨0, Nat.zero_le _, rfl, rfl, hbw2, hB2, hset⟩
  case round =>
   obtain ⟨k, hk, rfl, hfk, hb, hB, hS⟩ := hrel
   have Hfk := lH hfk
   have HB := lH hB
   have HS := lH hS
   clear hfk hB hS hB2 hset hbw2
   by_cases hlt : k < ps.length
   ·have hx : ps[k]? = some ps[k] := lG hlt
    obtain ⟨b, o, sa, sc, rfl, g0, g1, g2, g3, g4⟩ := (Hs.out.below hb (nR _)) k _ hx
    have hat := pairsA_at (nt := nt) (hours := h) hx
    have hpx : (ps.map prP)[k]? = some ((ps[k]).one, (ps[k]).two) := by rw [List.getElem?_map, hx]; rfl
    generalize (ps[k]).one = x0 at *
    generalize (ps[k]).two = x1 at *
    generalize (ps[k]).calls = st at *
    have Hpx := lH hpx
    have G3 := lH g3
    have Hat := lH hat
    clear hx hpx g3 hat
    obtain ⟨q0, q1, q2, q3, q4⟩ := HB.out
    have R : Hid (LkR w wr.heap.size (wr.heap.size + 1) bm k (prefS (ps.map prP) k) h (.slice ta nt tc) (.slice la ln lc) (.slice (some ⟨b, o, none⟩) ps.length pc) x0 x1 (.slice sa st.length sc) sa st ((wr.alloc (.cells #[.int .i64 x0, .int .i64 x1, .slice sa st.length sc] 67)).alloc (.cells #[.int .i64 x0, .int .i64 x1] 147))) :=
     lH ⟨hb.trans (((bR _ _).alloc (nR _) _).alloc (by simp) _ |>.mono hb.size), HB.out.below (((bR _ _).alloc (nR _) _).alloc (by simp) _) q0, by simp; omega, by simp, by go_simp, by go_simp, by go_simp, by go_simp, by go_simp, HS.out.below (((bR _ _).alloc (nR _) _).alloc (by simp) _) HS.out.lt, G3.out.below (((bR _ _).alloc (nR _) _).alloc (by simp) _) (nR _)⟩
    cases hb1 : btw x0 0 ((nt : Int) - 1) with
    | false =>
     have HH2 := lH ((Hat.out).trans (if_pos (.inl hb1)))
     go_wp2_with (first   | (go_at_call 152; refine (c152 _ _ _ _ _ _ _ _ hntm).mono ?_; rintro e wn ⟨rfl, hbn⟩; have R := lH (R.out.step hbn); obtain ⟨_, ⟨q0, q1, q2, q3, q4⟩, q5, q6, q7, q8, q9, q10, q11, _, _⟩ := R.out; clear hbn)   | (at_lookup; refine wpList_lookup_set rfl _ _ rfl bm k rfl _ _ rfl R.out.set hi0 hi1 ?_)   | (go_at_call 154; refine (c154_calls st sa _ sc _ rfl R.out.sl g4).mono ?_; rintro e wn ⟨rfl, hbn⟩; have R := lH (R.out.step hbn); obtain ⟨_, ⟨q0, q1, q2, q3, q4⟩, q5, q6, q7, q8, q9, q10, q11, _, _⟩ := R.out; clear hbn)   | (at_mapUpdate; refine wpList_update_set rfl _ _ _ rfl bm k rfl _ _ rfl rfl R.out.set (by unfold maxLen; omega) hi0 hi1 ?_; intro wm hset hgrow; have HA := lH (R.out.after hgrow hbm); have HT := lH hset; clear hset hgrow))
     go_ret
     exact ⟨by rw [HH.out, Hfk.out, HH2.out]; rfl, R.out.below⟩
    | true =>
     cases hb2 : btw x1 0 ((nt : Int) - 1) with
     | false =>
      have HH2 := lH ((Hat.out).trans (if_pos (.inr hb2)))
      go_wp2_with (first   | (go_at_call 152; refine (c152 _ _ _ _ _ _ _ _ hntm).mono ?_; rintro e wn ⟨rfl, hbn⟩; have R := lH (R.out.step hbn); obtain ⟨_, ⟨q0, q1, q2, q3, q4⟩, q5, q6, q7, q8, q9, q10, q11, _, _⟩ := R.out; clear hbn)   | (at_lookup; refine wpList_lookup_set rfl _ _ rfl bm k rfl _ _ rfl R.out.set hi0 hi1 ?_)   | (go_at_call 154; refine (c154_calls st sa _ sc _ rfl R.out.sl g4).mono ?_; rintro e wn ⟨rfl, hbn⟩; have R := lH (R.out.step hbn); obtain ⟨_, ⟨q0, q1, q2, q3, q4⟩, q5, q6, q7, q8, q9, q10, q11, _, _⟩ := R.out; clear hbn)   | (at_mapUpdate; refine wpList_update_set rfl _ _ _ rfl bm k rfl _ _ rfl rfl R.out.set (by unfold maxLen; omega) hi0 hi1 ?_; intro wm hset hgrow; have HA := lH (R.out.after hgrow hbm); have HT := lH hset; clear hset hgrow))
      go_ret
      exact ⟨by rw [HH.out, Hfk.out, HH2.out]; rfl, R.out.below⟩
     | true =>
      have Hb12 := lH (show _ /\ _ from ⟨hb1, hb2⟩)
      obtain ⟨hx00, hx01⟩ := btw_t hb1
      obtain ⟨hx10, hx11⟩ := btw_t hb2
      have hi0 : i64ok x0 := ⟨by omega, by omega⟩
      have hi1 : i64ok x1 := ⟨by omega, by omega⟩
      by_cases hge : x1 <= x0
      ·have HH2 := lH ((Hat.out).trans ((if_neg (by rw [Hb12.out.1, Hb12.out.2]; decide)).trans (if_pos hge)))
       go_wp2_with (first   | (go_at_call 152; refine (c152 _ _ _ _ _ _ _ _ hntm).mono ?_; rintro e wn ⟨rfl, hbn⟩; have R := lH (R.out.step hbn); obtain ⟨_, ⟨q0, q1, q2, q3, q4⟩, q5, q6, q7, q8, q9, q10, q11, _, _⟩ := R.out; clear hbn)   | (at_lookup; refine wpList_lookup_set rfl _ _ rfl bm k rfl _ _ rfl R.out.set hi0 hi1 ?_)   | (go_at_call 154; refine (c154_calls st sa _ sc _ rfl R.out.sl g4).mono ?_; rintro e wn ⟨rfl, hbn⟩; have R := lH (R.out.step hbn); obtain ⟨_, ⟨q0, q1, q2, q3, q4⟩, q5, q6, q7, q8, q9, q10, q11, _, _⟩ := R.out; clear hbn)   | (at_mapUpdate; refine wpList_update_set rfl _ _ _ rfl bm k rfl _ _ rfl rfl R.out.set (by unfold maxLen; omega) hi0 hi1 ?_; intro wm hset hgrow; have HA := lH (R.out.after hgrow hbm); have HT := lH hset; clear hset hgrow))
       go_ret
       exact ⟨by rw [HH.out, Hfk.out, HH2.out]; rfl, R.out.below⟩
      ·cases hme : memS (prefS (ps.map prP) k) x0 x1 with
       | true =>
        have HH2 := lH ((Hat.out).trans ((if_neg (by rw [Hb12.out.1, Hb12.out.2]; decide)).trans ((if_neg hge).trans (if_pos hme))))
        go_wp2_with (first   | (go_at_call 152; refine (c152 _ _ _ _ _ _ _ _ hntm).mono ?_; rintro e wn ⟨rfl, hbn⟩; have R := lH (R.out.step hbn); obtain ⟨_, ⟨q0, q1, q2, q3, q4⟩, q5, q6, q7, q8, q9, q10, q11, _, _⟩ := R.out; clear hbn)   | (at_lookup; refine wpList_lookup_set rfl _ _ rfl bm k rfl _ _ rfl R.out.set hi0 hi1 ?_)   | (go_at_call 154; refine (c154_calls st sa _ sc _ rfl R.out.sl g4).mono ?_; rintro e wn ⟨rfl, hbn⟩; have R := lH (R.out.step hbn); obtain ⟨_, ⟨q0, q1, q2, q3, q4⟩, q5, q6, q7, q8, q9, q10, q11, _, _⟩ := R.out; clear hbn)   | (at_mapUpdate; refine wpList_update_set rfl _ _ _ rfl bm k rfl _ _ rfl rfl R.out.set (by unfold maxLen; omega) hi0 hi1 ?_; intro wm hset hgrow; have HA := lH (R.out.after hgrow hbm); have HT := lH hset; clear hset hgrow))
        go_ret
        exact ⟨by rw [HH.out, Hfk.out, HH2.out]; rfl, R.out.below⟩
       | false =>
        have Hme := lH hme
        by_cases hln : (st.length : Int) = h
        ·subst hln
         cases hba : badCalls st with
         | true =>
          have HH2 := lH ((Hat.out).trans ((if_neg (by rw [Hb12.out.1, Hb12.out.2]; decide)).trans ((if_neg hge).trans ((if_neg (ne_of_false Hme.out)).trans ((if_pos rfl).trans (if_pos hba))))))
          go_wp2_with (first   | (go_at_call 152; refine (c152 _ _ _ _ _ _ _ _ hntm).mono ?_; rintro e wn ⟨rfl, hbn⟩; have R := lH (R.out.step hbn); obtain ⟨_, ⟨q0, q1, q2, q3, q4⟩, q5, q6, q7, q8, q9, q10, q11, _, _⟩ := R.out; clear hbn)   | (at_lookup; refine wpList_lookup_set rfl _ _ rfl bm k rfl _ _ rfl R.out.set hi0 hi1 ?_)   | (go_at_call 154; refine (c154_calls st sa _ sc _ rfl R.out.sl g4).mono ?_; rintro e wn ⟨rfl, hbn⟩; have R := lH (R.out.step hbn); obtain ⟨_, ⟨q0, q1, q2, q3, q4⟩, q5, q6, q7, q8, q9, q10, q11, _, _⟩ := R.out; clear hbn)   | (at_mapUpdate; refine wpList_update_set rfl _ _ _ rfl bm k rfl _ _ rfl rfl R.out.set (by unfold maxLen; omega) hi0 hi1 ?_; intro wm hset hgrow; have HA := lH (R.out.after hgrow hbm); have HT := lH hset; clear hset hgrow))
          go_ret
          exact ⟨by rw [HH.out, Hfk.out, HH2.out]; rfl, R.out.below⟩
         | false =>
          have Hba := lH hba
          have HH2 := lH ((Hat.out).trans ((if_neg (by rw [Hb12.out.1, Hb12.out.2]; decide)).trans ((if_neg hge).trans ((if_neg (ne_of_false Hme.out)).trans ((if_pos rfl).trans (if_neg (ne_of_false Hba.out)))))))
          go_wp2_with (first   | (go_at_call 152; refine (c152 _ _ _ _ _ _ _ _ hntm).mono ?_; rintro e wn ⟨rfl, hbn⟩; have R := lH (R.out.step hbn); obtain ⟨_, ⟨q0, q1, q2, q3, q4⟩, q5, q6, q7, q8, q9, q10, q11, _, _⟩ := R.out; clear hbn)   | (at_lookup; refine wpList_lookup_set rfl _ _ rfl bm k rfl _ _ rfl R.out.set hi0 hi1 ?_)   | (go_at_call 154; refine (c154_calls st sa _ sc _ rfl R.out.sl g4).mono ?_; rintro e wn ⟨rfl, hbn⟩; have R := lH (R.out.step hbn); obtain ⟨_, ⟨q0, q1, q2, q3, q4⟩, q5, q6, q7, q8, q9, q10, q11, _, _⟩ := R.out; clear hbn)   | (at_mapUpdate; refine wpList_update_set rfl _ _ _ rfl bm k rfl _ _ rfl rfl R.out.set (by unfold maxLen; omega) hi0 hi1 ?_; intro wm hset hgrow; have HA := lH (R.out.after hgrow hbm); have HT := lH hset; clear hset hgrow))
          go_roundw
          case rel => exact ⟨k + 1, by omega, by go_num, by rw [Hfk.out, HH2.out], HA.out.1, HA.out.2, by rw [prefS_succ Hpx.out]; exact HT.out⟩
          case measure => simp [intOf]; omega
        ·have HH2 := lH ((Hat.out).trans ((if_neg (by rw [Hb12.out.1, Hb12.out.2]; decide)).trans ((if_neg hge).trans ((if_neg (ne_of_false Hme.out)).trans (if_neg hln)))))
         go_wp2_with (first   | (go_at_call 152; refine (c152 _ _ _ _ _ _ _ _ hntm).mono ?_; rintro e wn ⟨rfl, hbn⟩; have R := lH (R.out.step hbn); obtain ⟨_, ⟨q0, q1, q2, q3, q4⟩, q5, q6, q7, q8, q9, q10, q11, _, _⟩ := R.out; clear hbn)   | (at_lookup; refine wpList_lookup_set rfl _ _ rfl bm k rfl _ _ rfl R.out.set hi0 hi1 ?_)   | (go_at_call 154; refine (c154_calls st sa _ sc _ rfl R.out.sl g4).mono ?_; rintro e wn ⟨rfl, hbn⟩; have R := lH (R.out.step hbn); obtain ⟨_, ⟨q0, q1, q2, q3, q4⟩, q5, q6, q7, q8, q9, q10, q11, _, _⟩ := R.out; clear hbn)   | (at_mapUpdate; refine wpList_update_set rfl _ _ _ rfl bm k rfl _ _ rfl rfl R.out.set (by unfold maxLen; omega) hi0 hi1 ?_; intro wm hset hgrow; have HA := lH (R.out.after hgrow hbm); have HT := lH hset; clear hset hgrow))
         go_ret
         exact ⟨by rw [HH.out, Hfk.out, HH2.out]; rfl, R.out.below⟩
   ·have hke : ps.length <= k := by omega
    go_wp2
    go_ret
    exact ⟨by rw [HH.out, Hfk.out, pairsA_end hke]; rfl, hb⟩
structure BkIn (w : World) (V : BkV) (B : Bk) : Prop where
 towns : SlS w V.ta B.towns
 links : LkAt w V.la B.links
 pairs : PrAt w V.pa B.pairs
 nt : B.towns.length <= 1000000
 nl : B.links.length <= 1000000
 np : B.pairs.length <= 1000000
 tc : B.towns.length <= V.tc /\ V.tc <= 9223372036854775807
theorem BkIn.below {n : Nat} {w w' : World} {V : BkV} {B : Bk} (h : BkIn w V B) (hb : Below n w w') (hn : w.heap.size <= n) : BkIn w' V B :=
 ⟨h.towns.below hb hn, h.links.below hb hn, h.pairs.below hb hn, h.nt, h.nl, h.np, h.tc⟩
theorem BkIn.at {w : World} {V : BkV} {B : Bk} (h : BkIn w V B) : BkAt w V B :=
 ⟨h.towns, fun i L hi => by obtain ⟨b, o, sa, sc, h1, h2, h3, h4, h5, _⟩ := h.links i L hi; exact ⟨b, o, sa, sc, h1, h2, h3, h4, h5⟩, fun i L hi => by obtain ⟨b, o, sa, sc, h1, h2, h3, h4, h5, _⟩ := h.pairs i L hi; exact ⟨b, o, sa, sc, h1, h2, h3, h4, h5⟩⟩
structure Var2 (w : World) : Prop where
 c0 : w.cell? ⟨2, 0, none⟩ = some (.func (.func 146) #[] #[])
 c1 : w.cell? ⟨2, 1, none⟩ = some (.func (.func 147) #[] #[])
 c2 : w.cell? ⟨2, 2, none⟩ = some (.func (.func 148) #[] #[])
 c3 : w.cell? ⟨2, 3, none⟩ = some (.func (.func 149) #[] #[])
theorem Var2.below {n : Nat} {w w' : World} (h : Var2 w) (hb : Below n w w') (hn : w.heap.size <= n) : Var2 w' := ⟨cell_below hb h.c0 hn, cell_below hb h.c1 hn, cell_below hb h.c2 hn, cell_below hb h.c3 hn⟩
def alK (B : Bk) : Nat -> Int
 | 0 => alHours B.hours
 | 1 => alTowns B.towns
 | 2 => alLinks B.towns.length B.links
 | _ => alPairs B.towns.length B.hours B.pairs
def alFrom (B : Bk) : Nat -> Nat -> Int
 | 0, _ => 0
 | n + 1, k => if alK B k = 0 then alFrom B n (k + 1) else alK B k
def _root_.Go.Rent.Bk.alarm (B : Bk) : Int := alFrom B 4 0
set_option maxHeartbeats 2000000 in
theorem c19 (V : BkV) (B : Bk) (w : World) (hs : BkIn w V B) (hv : Var2 w) : Calls tP 19 #[V.val B] w fun e w' => e = .returned (.int .i64 B.alarm) /\ Below w.heap.size w w' := by
 obtain ⟨ta, la, pa, tc, lc, pc⟩ := V
 have Hs := lH hs
 obtain ⟨v0, v1, v2, v3⟩ := hv
 have hz2 := World.block_lt_of_cell? w _ v0
 clear hs
 have i0 : ∀ x0 x1 x2 x3 w, (Instr.index 102 (.agg #[x0, x1, x2, x3]) (.int .i64 0)).run tP w = .ok x0 w := fun _ _ _ _ _ => by kernel_rfl
 have i1 : ∀ x0 x1 x2 x3 w, (Instr.index 102 (.agg #[x0, x1, x2, x3]) (.int .i64 1)).run tP w = .ok x1 w := fun _ _ _ _ _ => by kernel_rfl
 have i2 : ∀ x0 x1 x2 x3 w, (Instr.index 102 (.agg #[x0, x1, x2, x3]) (.int .i64 2)).run tP w = .ok x2 w := fun _ _ _ _ _ => by kernel_rfl
 have i3 : ∀ x0 x1 x2 x3 w, (Instr.index 102 (.agg #[x0, x1, x2, x3]) (.int .i64 3)).run tP w = .ok x3 w := fun _ _ _ _ _ => by kernel_rfl
 have HA : Hid (B.alarm = alFrom B 4 0) := rfl
 go_enter Tryd.func19, Tryd.ntmps19
 go_wp2_with fail
 go_loopw [7] (fun i wr => ∃ k : Nat, k <= 4 /\ i = .int .i64 (k : Int) /\ B.alarm = alFrom B (4 - k) k /\ Below w.heap.size w wr /\ BoxB wr w.heap.size B.hours (.slice ta B.towns.length tc) (.slice la B.links.length lc) (.slice pa B.pairs.length pc)) (fun i _ => 4 - (intOf i).toNat)
 case atStart => exact ⟨0, by omega, rfl, HA.out, (bR _ _).alloc (nR _) _, by simp, by go_simp, by go_simp, by go_simp, by go_simp⟩
 case round =>
  obtain ⟨k, hk, rfl, hfk, hb, hB⟩ := hrel
  have Hfk := lH hfk
  clear hfk
  have Hw := lH (Hs.out.below hb (nR _))
  have HB := lH hB
  obtain ⟨q0, q1, q2, q3, q4⟩ := hB
  obtain rfl | rfl | rfl | rfl | rfl : k = 0 \/ k = 1 \/ k = 2 \/ k = 3 \/ k = 4 := by omega
  ·by_cases ha : alHours B.hours = 0
   ·go_wp2_with (go_at_call 146; refine (c146 _ _ _ _ _).mono ?_; rintro e wn ⟨rfl, hbn⟩)
    go_roundw
    case rel => exact ⟨1, by omega, by rfl, by rw [Hfk.out]; exact if_pos ha, hb.trans (hbn.mono hb.size), HB.out.below hbn q0⟩
    case measure => simp [intOf]
   ·go_wp2_with (go_at_call 146; refine (c146 _ _ _ _ _).mono ?_; rintro e wn ⟨rfl, hbn⟩)
    go_ret
    exact ⟨by rw [Hfk.out]; exact congrArg (fun x => Ending.returned (.int .i64 x)) (if_neg ha).symm, hb.trans (hbn.mono hb.size)⟩
  ·by_cases ha : alTowns B.towns = 0
   ·go_wp2_with (go_at_call 147; refine (c147 _ _ _ _ _ _ _ _ rfl Hw.out.towns Hw.out.tc.1 Hw.out.nt Hw.out.tc.2).mono ?_; rintro e wn ⟨rfl, hbn⟩)
    go_roundw
    case rel => exact ⟨2, by omega, by rfl, by rw [Hfk.out]; exact if_pos ha, hb.trans (hbn.mono hb.size), HB.out.below hbn q0⟩
    case measure => simp [intOf]
   ·go_wp2_with (go_at_call 147; refine (c147 _ _ _ _ _ _ _ _ rfl Hw.out.towns Hw.out.tc.1 Hw.out.nt Hw.out.tc.2).mono ?_; rintro e wn ⟨rfl, hbn⟩)
    go_ret
    exact ⟨by rw [Hfk.out]; exact congrArg (fun x => Ending.returned (.int .i64 x)) (if_neg ha).symm, hb.trans (hbn.mono hb.size)⟩
  ·by_cases ha : alLinks B.towns.length B.links = 0
   ·go_wp2_with (go_at_call 148; refine (c148 _ _ _ _ _ _ _ _ _ _ _ Hw.out.links Hw.out.nl Hw.out.nt).mono ?_; rintro e wn ⟨rfl, hbn⟩)
    go_roundw
    case rel => exact ⟨3, by omega, by rfl, by rw [Hfk.out]; exact if_pos ha, hb.trans (hbn.mono hb.size), HB.out.below hbn q0⟩
    case measure => simp [intOf]
   ·go_wp2_with (go_at_call 148; refine (c148 _ _ _ _ _ _ _ _ _ _ _ Hw.out.links Hw.out.nl Hw.out.nt).mono ?_; rintro e wn ⟨rfl, hbn⟩)
    go_ret
    exact ⟨by rw [Hfk.out]; exact congrArg (fun x => Ending.returned (.int .i64 x)) (if_neg ha).symm, hb.trans (hbn.mono hb.size)⟩
  ·by_cases ha : alPairs B.towns.length B.hours B.pairs = 0
   ·go_wp2_with (go_at_call 149; refine (c149 _ _ _ _ _ _ _ _ _ _ _ Hw.out.pairs Hw.out.np Hw.out.nt).mono ?_; rintro e wn ⟨rfl, hbn⟩)
    go_roundw
    case rel => exact ⟨4, by omega, by rfl, by rw [Hfk.out]; exact if_pos ha, hb.trans (hbn.mono hb.size), HB.out.below hbn q0⟩
    case measure => simp [intOf]
   ·go_wp2_with (go_at_call 149; refine (c149 _ _ _ _ _ _ _ _ _ _ _ Hw.out.pairs Hw.out.np Hw.out.nt).mono ?_; rintro e wn ⟨rfl, hbn⟩)
    go_ret
    exact ⟨by rw [Hfk.out]; exact congrArg (fun x => Ending.returned (.int .i64 x)) (if_neg ha).symm, hb.trans (hbn.mono hb.size)⟩
  ·go_wp2
   go_ret
   exact ⟨by rw [Hfk.out]; rfl, hb⟩
abbrev zeroBk : Value := .agg #[.int .i64 0, .slice none 0 0, .slice none 0 0, .slice none 0 0]
def openA (B : Bk) (there : Bool) : Int := if B.alarm = 0 then (if there then 0 else 6) else B.alarm
def resB (V : BkV) (B : Bk) (a : Int) : Value := .tuple #[if a = 0 then V.val B else zeroBk, .int .i64 a]
theorem resB_ok {V : BkV} {B : Bk} : resB V B 0 = .tuple #[V.val B, .int .i64 0] := rfl
theorem resB_bad {V : BkV} {B : Bk} {a : Int} (h : a ≠ 0) : resB V B a = .tuple #[zeroBk, .int .i64 a] := by unfold resB; rw [if_neg h]
theorem top1 (w : World) (o : Obj) : (w.alloc o).heap[w.heap.size]? = some o := by
 show (w.heap.push o)[w.heap.size]? = some o
 simp
theorem top_more {w : World} {o x : Obj} {b : Nat} (h : w.heap[b]? = some x) : (w.alloc o).heap[b]? = some x := by
 rw [Below.heap_alloc w o b (aS.1 h).1]; exact h
theorem top2 (w : World) (o o' : Obj) : ((w.alloc o).alloc o').heap[w.heap.size]? = some o /\ ((w.alloc o).alloc o').heap[w.heap.size + 1]? = some o' :=
 ⟨top_more (top1 w o), by have := top1 (w.alloc o) o'; rwa [World.size_alloc] at this⟩
structure Row4 (w : World) (n : Nat) (a b c d : Value) : Prop where
 z : n < w.heap.size
 c0 : w.cell? ⟨n, 0, none⟩ = some a
 c1 : w.cell? ⟨n, 1, none⟩ = some b
 c2 : w.cell? ⟨n, 2, none⟩ = some c
 c3 : w.cell? ⟨n, 3, none⟩ = some d
 f0 : w.frozen? ⟨n, 0, none⟩ = false
 f1 : w.frozen? ⟨n, 1, none⟩ = false
 f2 : w.frozen? ⟨n, 2, none⟩ = false
 f3 : w.frozen? ⟨n, 3, none⟩ = false
theorem row4 {w : World} {n : Nat} {a b c d : Value} {t : TypeId} (h : w.heap[n]? = some (.cells #[a, b, c, d] t (0, 0))) : Row4 w n a b c d := by
 have hc : ∀ i v, #[a, b, c, d][i]? = some v -> w.cell? ⟨n, i, none⟩ = some v := fun i v hv => by simp [World.cell?, h, hv]
 have hf : ∀ i, w.frozen? ⟨n, i, none⟩ = false := fun i => by simp [World.frozen?, h]
 exact ⟨(aS.1 h).1, hc 0 _ (by rfl), hc 1 _ (by rfl), hc 2 _ (by rfl), hc 3 _ (by rfl), hf 0, hf 1, hf 2, hf 3⟩
theorem Row4.below {w w' : World} {n m : Nat} {a b c d : Value} (r : Row4 w n a b c d) (hb : Below m w w') (hm : n < m) : Row4 w' n a b c d := by
 obtain ⟨z, c0, c1, c2, c3, f0, f1, f2, f3⟩ := r
 have hc := fun o => (bcell hb).1 n o hm
 have hf := fun o => (bcell hb).2 n o hm
 exact ⟨Nat.lt_of_lt_of_le z hb.size, by rw [hc]; exact c0, by rw [hc]; exact c1, by rw [hc]; exact c2, by rw [hc]; exact c3, by rw [hf]; exact f0, by rw [hf]; exact f1, by rw [hf]; exact f2, by rw [hf]; exact f3⟩
set_option maxHeartbeats 2000000 in
theorem c78 (V : BkV) (B : Bk) (there : Bool) (w : World) (hs : BkIn w V B) (hv : Var2 w) : Calls tP 78 #[V.val B, .bool there] w fun e w' => e = .returned (resB V B (openA B there)) /\ Below w.heap.size w w' := by
 obtain ⟨ta, la, pa, tc, lc, pc⟩ := V
 have hb0 : Below w.heap.size w ((w.alloc (.cells #[.int .i64 B.hours, .slice ta B.towns.length tc, .slice la B.links.length lc, .slice pa B.pairs.length pc] 26)).alloc (.cells #[.int .i64 0, .slice none 0 0, .slice none 0 0, .slice none 0 0] 89)) := ((bR _ _).alloc (nR _) _).alloc (by simp) _
 have HC := lH (c19 _ B _ (hs.below hb0 (nR _)) (hv.below hb0 (nR _)))
 have HT := lH (top2 w (.cells #[.int .i64 B.hours, .slice ta B.towns.length tc, .slice la B.links.length lc, .slice pa B.pairs.length pc] 26) (.cells #[.int .i64 0, .slice none 0 0, .slice none 0 0, .slice none 0 0] 89))
 have HB0 := lH hb0
 clear hs hv hb0
 by_cases ha : B.alarm = 0
 ·cases there with
  | true =>
   have HR := lH (show openA B true = 0 by unfold openA; rw [if_pos ha]; rfl)
   go_enter Tryd.func78, Tryd.ntmps78
   go_wp2_with fail
   refine HC.out.mono ?_
   rintro e w1 ⟨rfl, hb1⟩
   obtain ⟨z0, c0, c1, c2, c3, f0, f1, f2, f3⟩ := (row4 HT.out.1).below hb1 (by simp; omega)
   obtain ⟨y0, d0, d1, d2, d3, g0, g1, g2, g3⟩ := (row4 HT.out.2).below hb1 (by simp)
   have Hbw := lH (HB0.out.trans (hb1.mono (by simp; omega)))
   clear hb1
   go_wp2
   refine bodyPost_ret (v := resB ⟨ta, la, pa, tc, lc, pc⟩ B 0) (by simp [results, Tryd.results78, go_sem, resB, d0, d1, d2, d3]) rfl ⟨by rw [HR.out], ?_⟩
   exact Hbw.out.trans (((((bR _ _).setCell (by simp) _).setCell (by simp) _).setCell (by simp) _).setCell (by simp) _)
  | false =>
   have HR := lH (show openA B false = 6 by unfold openA; rw [if_pos ha]; rfl)
   go_enter Tryd.func78, Tryd.ntmps78
   go_wp2_with fail
   refine HC.out.mono ?_
   rintro e w1 ⟨rfl, hb1⟩
   obtain ⟨z0, c0, c1, c2, c3, f0, f1, f2, f3⟩ := (row4 HT.out.1).below hb1 (by simp; omega)
   obtain ⟨y0, d0, d1, d2, d3, g0, g1, g2, g3⟩ := (row4 HT.out.2).below hb1 (by simp)
   have Hbw := lH (HB0.out.trans (hb1.mono (by simp; omega)))
   clear hb1
   go_wp2
   refine bodyPost_ret (v := resB ⟨ta, la, pa, tc, lc, pc⟩ B 6) (by simp [results, Tryd.results78, go_sem, resB, d0, d1, d2, d3]) rfl ⟨by rw [HR.out], ?_⟩
   exact Hbw.out.trans (((((bR _ _).setCell (by simp) _).setCell (by simp) _).setCell (by simp) _).setCell (by simp) _)
 ·have HR := lH (show openA B there = B.alarm by unfold openA; rw [if_neg ha])
  go_enter Tryd.func78, Tryd.ntmps78
  go_wp2_with fail
  refine HC.out.mono ?_
  rintro e w1 ⟨rfl, hb1⟩
  obtain ⟨z0, c0, c1, c2, c3, f0, f1, f2, f3⟩ := (row4 HT.out.1).below hb1 (by simp; omega)
  obtain ⟨y0, d0, d1, d2, d3, g0, g1, g2, g3⟩ := (row4 HT.out.2).below hb1 (by simp)
  have Hbw := lH (HB0.out.trans (hb1.mono (by simp; omega)))
  clear hb1
  go_wp2
  refine bodyPost_ret (v := resB ⟨ta, la, pa, tc, lc, pc⟩ B B.alarm) (by simp [results, Tryd.results78, go_sem, resB, ha, d0, d1, d2, d3]) rfl ⟨by rw [HR.out], ?_⟩
  exact Hbw.out.trans (((((bR _ _).setCell (by simp) _).setCell (by simp) _).setCell (by simp) _).setCell (by simp) _)
def badTrunk (l : List Int) : Bool := l.any fun n => !btw n 0 20
theorem c67_trunks (l : List Int) (sa : Option Addr) (n cap : Nat) (w : World) (hn : n = l.length) (hs : SlI w sa l) (hl : l.length <= 1000000) :
  Calls tP 67 #[.slice sa n cap, .func (.func 92) #[] #[]] w fun e w' => e = .returned (.bool (badTrunk l)) /\ Below w.heap.size w w' :=
 c67 92 (fun x => !btw x 0 20) sa l n cap w hn hs hl (cf Tryd.func92 (by rfl) (by rfl)) (fun x w1 _ => c92 x w1)
def rentedA (B : Bk) (xs : List Int) (there : Bool) : Int := if B.alarm = 0 then (if xs.length = B.links.length then (if badTrunk xs then 1 else if there then 0 else 6) else 2) else B.alarm
set_option maxHeartbeats 2000000 in
theorem c55 (V : BkV) (B : Bk) (xs : List Int) (xa : Option Addr) (xc : Nat) (there : Bool) (w : World) (hs : BkIn w V B) (hv : Var2 w) (hx : SlI w xa xs) (hxl : xs.length <= 1000000) :
  Calls tP 55 #[V.val B, .slice xa xs.length xc, .bool there] w fun e w' => e = .returned (resB V B (rentedA B xs there)) /\ Below w.heap.size w w' := by
 obtain ⟨ta, la, pa, tc, lc, pc⟩ := V
 have hb0 : Below w.heap.size w ((w.alloc (.cells #[.int .i64 B.hours, .slice ta B.towns.length tc, .slice la B.links.length lc, .slice pa B.pairs.length pc] 26)).alloc (.cells #[.int .i64 0, .slice none 0 0, .slice none 0 0, .slice none 0 0] 89)) := ((bR _ _).alloc (nR _) _).alloc (by simp) _
 have HC := lH (c19 _ B _ (hs.below hb0 (nR _)) (hv.below hb0 (nR _)))
 have HT := lH (top2 w (.cells #[.int .i64 B.hours, .slice ta B.towns.length tc, .slice la B.links.length lc, .slice pa B.pairs.length pc] 26) (.cells #[.int .i64 0, .slice none 0 0, .slice none 0 0, .slice none 0 0] 89))
 have HB0 := lH hb0
 have HS := lH hs
 have HV := lH hv
 have HX := lH hx
 clear hs hv hb0 hx
 by_cases ha : B.alarm = 0
 ·by_cases hlen : xs.length = B.links.length
  ·cases hbad : badTrunk xs with
   | true =>
    have HR := lH (show rentedA B xs there = 1 by unfold rentedA; rw [if_pos ha, if_pos hlen, if_pos hbad])
    have hne1 : ((xs.length : Int) != (B.links.length : Int)) = false := by simp [hlen]
    have hne2 : (xs.length != B.links.length) = false := by simp [hlen]
    have Hlen := lH hlen
    clear hlen
    go_enter Tryd.func55, Tryd.ntmps55
    go_wp2_with fail
    refine HC.out.mono ?_
    rintro e w1 ⟨rfl, hb1⟩
    have R0 := (row4 HT.out.1).below hb1 (by simp; omega)
    have R1 := (row4 HT.out.2).below hb1 (by simp)
    have Hbw := lH (HB0.out.trans (hb1.mono (by simp; omega)))
    have HR0 := lH R0
    have HR1 := lH R1
    obtain ⟨z0, c0, c1, c2, c3, f0, f1, f2, f3⟩ := R0
    obtain ⟨y0, d0, d1, d2, d3, g0, g1, g2, g3⟩ := R1
    clear hb1
    go_wp2_with fail
    refine (c67_trunks xs xa _ xc _ rfl (HX.out.below Hbw.out (nR _)) hxl).mono ?_
    rintro e w2 ⟨rfl, hb2⟩
    have Hbw2 := lH (Hbw.out.trans (hb2.mono Hbw.out.size))
    have S0 := HR0.out.below hb2 z0
    have S1 := HR1.out.below hb2 y0
    have HS0 := lH S0
    have HS1 := lH S1
    obtain ⟨z0', c0', c1', c2', c3', f0', f1', f2', f3'⟩ := S0
    obtain ⟨y0', d0', d1', d2', d3', g0', g1', g2', g3'⟩ := S1
    clear hb2
    go_wp2
    refine bodyPost_ret (v := resB ⟨ta, la, pa, tc, lc, pc⟩ B 1) (by simp [results, Tryd.results55, go_sem, resB, d0', d1', d2', d3']) rfl ⟨by rw [HR.out], ?_⟩
    exact Hbw2.out.trans (((((bR _ _).setCell (by simp) _).setCell (by simp) _).setCell (by simp) _).setCell (by simp) _)
   | false =>
    have HR := lH (show rentedA B xs there = openA B there by unfold rentedA openA; rw [if_pos ha, if_pos hlen, if_neg (by rw [hbad]; decide), if_pos ha])
    have hne1 : ((xs.length : Int) != (B.links.length : Int)) = false := by simp [hlen]
    have hne2 : (xs.length != B.links.length) = false := by simp [hlen]
    have Hlen := lH hlen
    clear hlen
    go_enter Tryd.func55, Tryd.ntmps55
    go_wp2_with fail
    refine HC.out.mono ?_
    rintro e w1 ⟨rfl, hb1⟩
    have R0 := (row4 HT.out.1).below hb1 (by simp; omega)
    have R1 := (row4 HT.out.2).below hb1 (by simp)
    have Hbw := lH (HB0.out.trans (hb1.mono (by simp; omega)))
    have HR0 := lH R0
    have HR1 := lH R1
    obtain ⟨z0, c0, c1, c2, c3, f0, f1, f2, f3⟩ := R0
    obtain ⟨y0, d0, d1, d2, d3, g0, g1, g2, g3⟩ := R1
    clear hb1
    go_wp2_with fail
    refine (c67_trunks xs xa _ xc _ rfl (HX.out.below Hbw.out (nR _)) hxl).mono ?_
    rintro e w2 ⟨rfl, hb2⟩
    have Hbw2 := lH (Hbw.out.trans (hb2.mono Hbw.out.size))
    have S0 := HR0.out.below hb2 z0
    have S1 := HR1.out.below hb2 y0
    have HS0 := lH S0
    have HS1 := lH S1
    obtain ⟨z0', c0', c1', c2', c3', f0', f1', f2', f3'⟩ := S0
    obtain ⟨y0', d0', d1', d2', d3', g0', g1', g2', g3'⟩ := S1
    clear hb2
    go_wp2_with fail
    refine (c78 ⟨ta, la, pa, tc, lc, pc⟩ B there _ (HS.out.below Hbw2.out (nR _)) (HV.out.below Hbw2.out (nR _))).mono ?_
    rintro e w3 ⟨rfl, hb3⟩
    have Hbw3 := lH (Hbw2.out.trans (hb3.mono Hbw2.out.size))
    have Q1 := HS1.out.below hb3 y0'
    obtain ⟨y0'', d0'', d1'', d2'', d3'', g0'', g1'', g2'', g3''⟩ := Q1
    clear hb3
    cases there with
    | true =>
     have hop : openA B true = 0 := by unfold openA; rw [if_pos ha]; rfl
     have hrs : resB ⟨ta, la, pa, tc, lc, pc⟩ B 0 = .tuple #[.agg #[.int .i64 B.hours, .slice ta B.towns.length tc, .slice la B.links.length lc, .slice pa B.pairs.length pc], .int .i64 0] := rfl
     rw [hop, hrs]
     have HR2 := lH (HR.out.trans hop)
     clear hop hrs
     go_wp2
     refine bodyPost_ret (v := resB ⟨ta, la, pa, tc, lc, pc⟩ B 0) (by simp [results, Tryd.results55, go_sem, resB, d0'', d1'', d2'', d3'']) rfl ⟨by rw [HR2.out], ?_⟩
     exact Hbw3.out.trans (((((bR _ _).setCell (by simp) _).setCell (by simp) _).setCell (by simp) _).setCell (by simp) _)
    | false =>
     have hop : openA B false = 6 := by unfold openA; rw [if_pos ha]; rfl
     have hrs : resB ⟨ta, la, pa, tc, lc, pc⟩ B 6 = .tuple #[zeroBk, .int .i64 6] := rfl
     rw [hop, hrs]
     have HR2 := lH (HR.out.trans hop)
     clear hop hrs
     go_wp2
     refine bodyPost_ret (v := resB ⟨ta, la, pa, tc, lc, pc⟩ B 6) (by simp [results, Tryd.results55, go_sem, resB, d0'', d1'', d2'', d3'']) rfl ⟨by rw [HR2.out], ?_⟩
     exact Hbw3.out.trans (((((bR _ _).setCell (by simp) _).setCell (by simp) _).setCell (by simp) _).setCell (by simp) _)
  ·have HR := lH (show rentedA B xs there = 2 by unfold rentedA; rw [if_pos ha, if_neg hlen])
   have hne1 : ((xs.length : Int) != (B.links.length : Int)) = true := by simp; omega
   have hne2 : (xs.length != B.links.length) = true := by simpa using hlen
   go_enter Tryd.func55, Tryd.ntmps55
   go_wp2_with fail
   refine HC.out.mono ?_
   rintro e w1 ⟨rfl, hb1⟩
   have R0 := (row4 HT.out.1).below hb1 (by simp; omega)
   have R1 := (row4 HT.out.2).below hb1 (by simp)
   have Hbw := lH (HB0.out.trans (hb1.mono (by simp; omega)))
   have HR0 := lH R0
   have HR1 := lH R1
   obtain ⟨z0, c0, c1, c2, c3, f0, f1, f2, f3⟩ := R0
   obtain ⟨y0, d0, d1, d2, d3, g0, g1, g2, g3⟩ := R1
   clear hb1
   go_wp2
   refine bodyPost_ret (v := resB ⟨ta, la, pa, tc, lc, pc⟩ B 2) (by simp [results, Tryd.results55, go_sem, resB, d0, d1, d2, d3]) rfl ⟨by rw [HR.out], ?_⟩
   exact Hbw.out.trans (((((bR _ _).setCell (by simp) _).setCell (by simp) _).setCell (by simp) _).setCell (by simp) _)
 ·have HR := lH (show rentedA B xs there = B.alarm by unfold rentedA; rw [if_neg ha])
  go_enter Tryd.func55, Tryd.ntmps55
  go_wp2_with fail
  refine HC.out.mono ?_
  rintro e w1 ⟨rfl, hb1⟩
  have R0 := (row4 HT.out.1).below hb1 (by simp; omega)
  have R1 := (row4 HT.out.2).below hb1 (by simp)
  have Hbw := lH (HB0.out.trans (hb1.mono (by simp; omega)))
  have HR0 := lH R0
  have HR1 := lH R1
  obtain ⟨z0, c0, c1, c2, c3, f0, f1, f2, f3⟩ := R0
  obtain ⟨y0, d0, d1, d2, d3, g0, g1, g2, g3⟩ := R1
  clear hb1
  go_wp2
  refine bodyPost_ret (v := resB ⟨ta, la, pa, tc, lc, pc⟩ B B.alarm) (by simp [results, Tryd.results55, go_sem, resB, ha, d0, d1, d2, d3]) rfl ⟨by rw [HR.out], ?_⟩
  exact Hbw.out.trans (((((bR _ _).setCell (by simp) _).setCell (by simp) _).setCell (by simp) _).setCell (by simp) _)
theorem linksA_all {nt : Int} : ∀ (l : List Lnk) (i : Nat) (S : List (Int × Int)), linksA nt i S l = 0 -> ∀ (j : Nat) (x : Lnk), l[j]? = some x ->
  btw x.one 0 (nt - 1) = true /\ btw x.two 0 (nt - 1) = true /\ ¬ linkBad nt (i + j) x.one x.two /\ alSteps x.steps = 0
 | [], _, _, _, j, x, hj => by simp at hj
 | y :: l, i, S, h, j, x, hj => by
  unfold linksA at h
  by_cases h1 : btw y.one 0 (nt - 1) = false \/ btw y.two 0 (nt - 1) = false
  ·rw [if_pos h1] at h; cases h
  ·rw [if_neg h1] at h
   by_cases h2 : linkBad nt i y.one y.two
   ·rw [if_pos h2] at h; cases h
   ·rw [if_neg h2] at h
    by_cases h3 : memS S y.one y.two = true
    ·rw [if_pos h3] at h; cases h
    ·rw [if_neg h3] at h
     by_cases h4 : alSteps y.steps = 0
     ·rw [if_pos h4] at h
      cases j with
      | zero =>
       simp only [List.getElem?_cons_zero, Option.some.injEq] at hj
       subst hj
       simp only [not_or, Bool.not_eq_false] at h1
       exact ⟨h1.1, h1.2, h2, h4⟩
      | succ j =>
       have := linksA_all l (i + 1) _ h j x (by simpa using hj)
       rw [show i + 1 + j = i + (j + 1) by omega] at this
       exact this
     ·rw [if_neg h4] at h; exact absurd h h4
theorem pairsA_all {nt hours : Int} : ∀ (l : List Pr) (S : List (Int × Int)), pairsA nt hours S l = 0 -> ∀ (j : Nat) (x : Pr), l[j]? = some x ->
  btw x.one 0 (nt - 1) = true /\ btw x.two 0 (nt - 1) = true /\ x.one < x.two /\ (x.calls.length : Int) = hours /\ badCalls x.calls = false
 | [], _, _, j, x, hj => by simp at hj
 | y :: l, S, h, j, x, hj => by
  unfold pairsA at h
  by_cases h1 : btw y.one 0 (nt - 1) = false \/ btw y.two 0 (nt - 1) = false
  ·rw [if_pos h1] at h; cases h
  ·rw [if_neg h1] at h
   by_cases h2 : y.two <= y.one
   ·rw [if_pos h2] at h; cases h
   ·rw [if_neg h2] at h
    by_cases h3 : memS S y.one y.two = true
    ·rw [if_pos h3] at h; cases h
    ·rw [if_neg h3] at h
     by_cases h4 : (y.calls.length : Int) = hours
     ·rw [if_pos h4] at h
      by_cases h5 : badCalls y.calls = true
      ·rw [if_pos h5] at h; cases h
      ·rw [if_neg h5] at h
       cases j with
       | zero =>
        simp only [List.getElem?_cons_zero, Option.some.injEq] at hj
        subst hj
        simp only [not_or, Bool.not_eq_false] at h1
        exact ⟨h1.1, h1.2, by omega, h4, by simpa using h5⟩
       | succ j => exact pairsA_all l _ h j x (by simpa using hj)
     ·rw [if_neg h4] at h; cases h
theorem alarm_parts {B : Bk} (h : B.alarm = 0) : alHours B.hours = 0 /\ alTowns B.towns = 0 /\ alLinks B.towns.length B.links = 0 /\ alPairs B.towns.length B.hours B.pairs = 0 := by
 unfold Bk.alarm at h
 simp only [alFrom, alK] at h
 by_cases h0 : alHours B.hours = 0
 ·rw [if_pos h0] at h
  by_cases h1 : alTowns B.towns = 0
  ·rw [if_pos h1] at h
   by_cases h2 : alLinks B.towns.length B.links = 0
   ·rw [if_pos h2] at h
    by_cases h3 : alPairs B.towns.length B.hours B.pairs = 0
    ·exact ⟨h0, h1, h2, h3⟩
    ·rw [if_neg h3] at h; exact absurd h h3
   ·rw [if_neg h2] at h; exact absurd h h2
  ·rw [if_neg h1] at h; exact absurd h h1
 ·rw [if_neg h0] at h; exact absurd h h0
theorem bandOk_of {l : List (Int × Int)} (h : badCalls l = false) {i : Nat} {x : Int × Int} (hi : l[i]? = some x) : 0 <= x.1 /\ x.1 <= x.2 /\ x.2 <= 5 := by
 unfold badCalls at h
 rw [List.any_eq_false] at h
 have := h x (List.mem_of_getElem? hi)
 simpa [bandOk] using this
structure Good (B : Bk) : Prop where
 fine : B.Fine
 hours : btw B.hours 1 3 = true
 towns : btw B.towns.length 2 4 = true
 links : ∀ (j : Nat) (x : Lnk), B.links[j]? = some x -> btw x.one 0 (B.towns.length - 1) = true /\ btw x.two 0 (B.towns.length - 1) = true /\ ¬ linkBad B.towns.length j x.one x.two /\ alSteps x.steps = 0
 pairs : ∀ (j : Nat) (x : Pr), B.pairs[j]? = some x -> btw x.one 0 (B.towns.length - 1) = true /\ btw x.two 0 (B.towns.length - 1) = true /\ x.one < x.two /\ (x.calls.length : Int) = B.hours /\ badCalls x.calls = false
 steps : ∀ (i : Nat) (L : Lnk), B.links[i]? = some L -> 1 <= L.steps.length
theorem good_of_alarm {B : Bk} (h : B.alarm = 0) : Good B := by
 obtain ⟨h0, h1, h2, h3⟩ := alarm_parts h
 have k0 : btw B.hours 1 3 = true := by
  unfold alHours at h0
  cases e : btw B.hours 1 3 with
  | true => rfl
  | false => rw [e] at h0; cases h0
 have k1 : btw B.towns.length 2 4 = true := by
  unfold alTowns at h1
  cases e : btw (B.towns.length : Int) 2 4 with
  | true => rfl
  | false => rw [e] at h1; cases h1
 have k2 : btw B.links.length ((B.towns.length : Int) - 1) 6 = true /\ linksA B.towns.length 0 [] B.links = 0 := by
  unfold alLinks at h2
  cases e : btw (B.links.length : Int) ((B.towns.length : Int) - 1) 6 with
  | true => rw [e] at h2; exact ⟨rfl, h2⟩
  | false => rw [e] at h2; cases h2
 have k3 : ¬ 6 < B.pairs.length /\ pairsA B.towns.length B.hours [] B.pairs = 0 := by
  unfold alPairs at h3
  by_cases e : 6 < B.pairs.length
  ·rw [if_pos e] at h3; cases h3
  ·rw [if_neg e] at h3; exact ⟨e, h3⟩
 have j0 := btw_t k0
 have j1 := btw_t k1
 have j2 := btw_t k2.1
 have L := linksA_all B.links 0 [] k2.2
 have Q := pairsA_all B.pairs [] k3.2
 have ends : ∀ i, i < B.pairs.length -> 0 <= B.pone i /\ B.pone i < B.ptwo i /\ B.ptwo i < B.towns.length := fun i hi => by
  have hx : B.pairs[i]? = some B.pairs[i] := lG hi
  obtain ⟨q1, q2, q3, _⟩ := Q i _ hx
  have q1 := btw_t q1
  have q2 := btw_t q2
  unfold Bk.pone Bk.ptwo
  rw [hx]
  simp only [Option.map_some, Option.getD_some]
  omega
 refine ⟨⟨j0, by omega, ⟨by unfold Bk.spokes; omega, by omega⟩, by omega, ends, fun i p hp => ?_⟩, k0, k1, fun j x hx => ?_, fun j x hx => Q j x hx, fun i l hl => ?_⟩
 ·obtain ⟨_, _, _, q4, q5⟩ := Q i p hp
  exact ⟨q4, fun k x hx => bandOk_of q5 hx⟩
 ·have := L j x hx
  rwa [Nat.zero_add] at this
 ·obtain ⟨_, _, _, q4⟩ := L i l hl
  unfold alSteps at q4
  cases e : btw (l.steps.length : Int) 1 3 with
  | true => have := btw_t e; omega
  | false => rw [e] at q4; cases q4
end Go.Proofs.YtaikibfkggglgaaDoor
