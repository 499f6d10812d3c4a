/- A part of the proof of RentMoreTrunks; no conditions of its own. -/
import Derived.Test.YtaikibfkggglgaaDoorX01
import Derived.DeepKeys4
import Derived.Maps.OwnOps
import Derived.Maps.OwnSet
set_option maxRecDepth 100000
open Nat renaming le_refl → nR
open Go.Lib renaming hid → lH
open Go.RowKit.Below renaming refl → bR
open Go.Proofs.Tryd renaming prog → tP
open List renaming getElem?_eq_getElem → lG
open List renaming getElem?_eq_some_iff → lS
open Nat renaming lt_of_lt_of_le → nL
namespace Go.Proofs.YtaikibfkggglgaaDoor
open Go.RowKit Go.Rent
def alHours (h : Int) : Int := if btw h 1 3 then 0 else 1
set_option maxHeartbeats 400000 in
theorem c146 (h : Int) (t l p : Value) (w : World) : Calls tP 146 #[.agg #[.int .i64 h, t, l, p]] w fun e w' => e = .returned (.int .i64 (alHours h)) /\ Below w.heap.size w w' := by
 cases h1 : btw h 1 3 with
 | true =>
  have H : alHours h = 0 := by unfold alHours; rw [h1]; rfl
  have HH := lH H
  clear H
  go_enter Tryd.func146, Tryd.ntmps146
  go_wp2_with (go_at_call 69; refine (c69 _ _ _ _).mono ?_; rintro e w' ⟨rfl, rfl⟩)
  go_ret
  exact ⟨by rw [HH.out]; rfl, (bR _ _).alloc (nR _) _⟩
 | false =>
  have H : alHours h = 1 := by unfold alHours; rw [h1]; rfl
  have HH := lH H
  clear H
  go_enter Tryd.func146, Tryd.ntmps146
  go_wp2_with (go_at_call 69; refine (c69 _ _ _ _).mono ?_; rintro e w' ⟨rfl, rfl⟩)
  go_ret
  exact ⟨by rw [HH.out]; rfl, (bR _ _).alloc (nR _) _⟩
def dupS (pre : List ByteArray) (t : ByteArray) : Bool := pre.any fun x => t.toList == x.toList
def townsA (pre : List ByteArray) : List ByteArray -> Int
 | [] => 0
 | t :: l => if !nameOk t then 4 else if dupS pre t then 5 else townsA (pre ++ [t]) l
def alTowns (ts : List ByteArray) : Int := if btw ts.length 2 4 then townsA [] ts else 2
theorem townsA_at {ts : List ByteArray} {k : Nat} {t : ByteArray} (h : ts[k]? = some t) : townsA (ts.take k) (ts.drop k) = if !nameOk t then 4 else if dupS (ts.take k) t then 5 else townsA (ts.take (k + 1)) (ts.drop (k + 1)) := by
 obtain ⟨hl, rfl⟩ := lS.1 h
 rw [List.take_succ_eq_append_getElem hl]
 conv => lhs; rw [List.drop_eq_getElem_cons hl]; unfold townsA
theorem townsA_end {ts : List ByteArray} {k : Nat} (h : ts.length <= k) : townsA (ts.take k) (ts.drop k) = 0 := by rw [List.drop_of_length_le h]; rfl
theorem c151_dup (t : ByteArray) (ts : List ByteArray) (sa : Option Addr) (k cap : Nat) (w : World) (hs : SlS w sa ts) (hk : k < ts.length) (hl : ts.length <= 1000000) :
  Calls tP 151 #[.slice sa k cap, .string t] w fun e w' => e = .returned (.bool (dupS (ts.take k) t)) /\ w = w' :=
 c151 t sa (ts.take k) k cap w (by simp; omega) (fun i x hx => hs i x (by
  rw [List.getElem?_take] at hx
  split at hx
  ·exact hx
  ·cases hx)) (by simp; omega)
set_option maxHeartbeats 1000000 in
theorem c147 (h : Int) (ts : List ByteArray) (ta : Option Addr) (n tc : Nat) (l p : Value) (w : World) (hn : n = ts.length) (hs : SlS w ta ts) (hc : n <= tc) (hl : ts.length <= 1000000) (hc2 : tc <= 9223372036854775807) :
  Calls tP 147 #[.agg #[.int .i64 h, .slice ta n tc, l, p]] w fun e w' => e = .returned (.int .i64 (alTowns ts)) /\ Below w.heap.size w w' := by
 subst hn
 have Hs := lH hs
 clear hs
 cases h1 : btw (ts.length : Int) 2 4 with
 | false =>
  have H : alTowns ts = 2 := by unfold alTowns; rw [h1]; rfl
  have HH := lH H
  clear H
  go_enter Tryd.func147, Tryd.ntmps147
  go_wp2_with (go_at_call 69; refine (c69 _ _ _ _).mono ?_; rintro e w' ⟨rfl, rfl⟩)
  go_ret
  exact ⟨by rw [HH.out]; rfl, (bR _ _).alloc (nR _) _⟩
 | true =>
  have H : alTowns ts = townsA [] ts := by unfold alTowns; rw [h1]; rfl
  have HH := lH H
  clear H
  go_enter Tryd.func147, Tryd.ntmps147
  go_wp2_with (go_at_call 69; refine (c69 _ _ _ _).mono ?_; rintro e w' ⟨rfl, rfl⟩)
  go_loopw [15] (fun i wr => ∃ k : Nat, k <= ts.length /\ i = .int .i64 (k : Int) /\ townsA [] ts = townsA (ts.take k) (ts.drop k) /\ Below w.heap.size w wr /\ w.heap.size < wr.heap.size /\ wr.cell? ⟨w.heap.size, 1, none⟩ = some (.slice ta ts.length tc)) (fun i _ => ts.length - (intOf i).toNat)
  case atStart => exact ⟨0, Nat.zero_le _, rfl, rfl, (bR _ _).alloc (nR _) _, by simp, by go_simp⟩
  case round =>
   obtain ⟨k, hk, rfl, hfk, hb, hz, hy1⟩ := hrel
   have Hfk := lH hfk
   clear hfk
   by_cases hlt : k < ts.length
   ·have hx : ts[k]? = some ts[k] := lG hlt
    obtain ⟨b, o, rfl, g0⟩ := (Hs.out.below hb (nR _)) k _ hx
    generalize ts[k] = t at *
    have hat := townsA_at hx
    have Hx := lH hx
    clear hx
    cases hno : nameOk t with
    | false =>
     have H2 : townsA (ts.take k) (ts.drop k) = 4 := by rw [hat, hno]; rfl
     have HH2 := lH H2
     clear H2 hat
     go_wp2_with (go_at_call 150; refine (c150 _ _).mono ?_; rintro e w1 ⟨rfl, hb1⟩)
     go_ret
     exact ⟨by rw [HH.out, Hfk.out, HH2.out]; rfl, hb.trans (hb1.mono (by omega))⟩
    | true =>
     have hz0 : w.heap.size < wr.heap.size := hz
     go_wp2_with fail
     refine (c150 _ _).mono ?_
     rintro e w1 ⟨rfl, hb1⟩
     have hb2 := hb.trans (hb1.mono (by omega))
     have hy2 : w1.cell? ⟨w.heap.size, 1, none⟩ = some (.slice (some ⟨b, o, none⟩) ts.length tc) := by rw [(bcell hb1).1 _ _ hz0]; exact hy1
     have hz2 : w.heap.size < w1.heap.size := nL hz0 hb1.size
     have hkc : k <= tc := by omega
     have Hsw := lH (Hs.out.below hb2 (nR _))
     clear hb1 hy1 g0
     cases hdu : dupS (ts.take k) t with
     | true =>
      have H2 : townsA (ts.take k) (ts.drop k) = 5 := by rw [hat, hno, hdu]; rfl
      have HH2 := lH H2
      clear H2 hat
      go_wp2_with (go_at_call 151; refine (c151_dup t ts _ k _ _ Hsw.out hlt hl).mono ?_; rintro e w2 ⟨rfl, rfl⟩)
      go_ret
      exact ⟨by rw [HH.out, Hfk.out, HH2.out]; rfl, hb2⟩
     | false =>
      have H2 : townsA (ts.take k) (ts.drop k) = townsA (ts.take (k + 1)) (ts.drop (k + 1)) := by rw [hat, hno, hdu]; rfl
      have HH2 := lH H2
      clear H2 hat
      go_wp2_with (go_at_call 151; refine (c151_dup t ts _ k _ _ Hsw.out hlt hl).mono ?_; rintro e w2 ⟨rfl, rfl⟩)
      go_roundw
      case rel => exact ⟨k + 1, by omega, by go_num, by rw [Hfk.out, HH2.out], hb2, hz2, hy2⟩
      case measure => simp [intOf]; omega
   ·have hke : ts.length <= k := by omega
    go_wp2
    go_ret
    exact ⟨by rw [HH.out, Hfk.out, townsA_end hke]; rfl, hb⟩
def stepsA (last : Int) (i : Nat) : List (Int × Int) -> Int
 | [] => 0
 | x :: l => if (i = 0 /\ x.1 ≠ 1) \/ x.1 <= last then 7 else if 20 < x.1 \/ btw x.2 0 99 = false then 1 else stepsA x.1 (i + 1) l
def alSteps (l : List (Int × Int)) : Int := if btw l.length 1 3 then stepsA 0 0 l else 2
def stepLast (l : List (Int × Int)) (k : Nat) : Int := match k with | 0 => 0 | k + 1 => ((l[k]?).map (·.1)).getD 0
theorem stepsA_at {l : List (Int × Int)} {k : Nat} {x : Int × Int} (h : l[k]? = some x) : stepsA (stepLast l k) k (l.drop k) = if (k = 0 /\ x.1 ≠ 1) \/ x.1 <= stepLast l k then 7 else if 20 < x.1 \/ btw x.2 0 99 = false then 1 else stepsA (stepLast l (k + 1)) (k + 1) (l.drop (k + 1)) := by
 have e : stepLast l (k + 1) = x.1 := by simp [stepLast, h]
 rw [e]
 obtain ⟨hl, rfl⟩ := lS.1 h
 conv => lhs; rw [List.drop_eq_getElem_cons hl]; unfold stepsA
theorem stepsA_end {l : List (Int × Int)} {k : Nat} {q : Int} (h : l.length <= k) : stepsA q k (l.drop k) = 0 := by rw [List.drop_of_length_le h]; rfl
set_option maxHeartbeats 1000000 in
theorem c153 (l : List (Int × Int)) (sa : Option Addr) (n c : Nat) (w : World) (hn : n = l.length) (hs : SlB w sa l) (hl : l.length <= 1000000) :
  Calls tP 153 #[.slice sa n c] w fun e w' => e = .returned (.int .i64 (alSteps l)) /\ Below w.heap.size w w' := by
 subst hn
 have Hs := lH hs
 clear hs
 cases h1 : btw (l.length : Int) 1 3 with
 | false =>
  have H : alSteps l = 2 := by unfold alSteps; rw [h1]; rfl
  have HH := lH H
  clear H
  go_enter Tryd.func153, Tryd.ntmps153
  go_wp2_with (go_at_call 69; refine (c69 _ _ _ _).mono ?_; rintro e w' ⟨rfl, rfl⟩)
  go_ret
  exact ⟨by rw [HH.out]; rfl, bR _ _⟩
 | true =>
  have H : alSteps l = stepsA 0 0 l := by unfold alSteps; rw [h1]; rfl
  have HH := lH H
  clear H
  go_enter Tryd.func153, Tryd.ntmps153
  go_wp2_with (go_at_call 69; refine (c69 _ _ _ _).mono ?_; rintro e w' ⟨rfl, rfl⟩)
  go_loopw [3, 12] (fun la i wr => ∃ k : Nat, k <= l.length /\ i = .int .i64 (k : Int) /\ la = .int .i64 (stepLast l k) /\ stepsA 0 0 l = stepsA (stepLast l k) k (l.drop k) /\ Below w.heap.size w wr) (fun _ i _ => l.length - (intOf i).toNat)
  case atStart => exact ⟨0, Nat.zero_le _, rfl, rfl, rfl, bR _ _⟩
  case round =>
   obtain ⟨k, hk, rfl, rfl, hfk, hb⟩ := hrel
   have Hfk := lH hfk
   clear hfk
   by_cases hlt : k < l.length
   ·have hx : l[k]? = some l[k] := lG hlt
    obtain ⟨b, o, rfl, g0, g1⟩ := (Hs.out.below hb (nR _)) k _ hx
    have hat := stepsA_at hx
    have hla : stepLast l (k + 1) = (l[k]).1 := by show ((l[k]?).map (·.1)).getD 0 = _; rw [hx]; rfl
    generalize l[k] = x at *
    obtain ⟨x, y⟩ := x
    simp only at g0 g1 hla hat
    have hb2 := hb.trans (((bR _ _).alloc (nR _) (.cells #[.int .i64 x, .int .i64 y] 137)).mono hb.size)
    have Hla := lH hla
    have Hb2 := lH hb2
    clear hx hla hb2
    generalize stepLast l k = la at *
    by_cases hk0 : k = 0
    ·have hki : ((k : Int) == 0) = true := by simpa using hk0
     have Hk0 := lH hk0
     clear hk0
     by_cases hx1 : x = 1
     ·have hxb : (x != 1) = false := by simpa using hx1
      have Hx1 := lH hx1
      clear hx1
      by_cases hxl : x <= la
      ·have HH2 := lH (show stepsA la k (l.drop k) = 7 by rw [hat, if_pos (by have := Hk0.out; have := Hx1.out; omega)])
       clear hat
       go_wp2
       go_ret
       exact ⟨by rw [HH.out, Hfk.out, HH2.out]; rfl, Hb2.out⟩
      ·skip
       by_cases h20 : 20 < x
       ·have HH2 := lH (show stepsA la k (l.drop k) = 1 by rw [hat, if_neg (by have := Hk0.out; have := Hx1.out; omega), if_pos (.inl h20)])
        clear hat
        go_wp2_with (go_at_call 69; refine (c69 _ _ _ _).mono ?_; rintro e w' ⟨rfl, rfl⟩)
        go_ret
        exact ⟨by rw [HH.out, Hfk.out, HH2.out]; rfl, Hb2.out⟩
       ·cases hby : btw y 0 99 with
        | false =>
         have HH2 := lH (show stepsA la k (l.drop k) = 1 by rw [hat, if_neg (by have := Hk0.out; have := Hx1.out; omega), if_pos (.inr hby)])
         clear hat
         go_wp2_with (go_at_call 69; refine (c69 _ _ _ _).mono ?_; rintro e w' ⟨rfl, rfl⟩)
         go_ret
         exact ⟨by rw [HH.out, Hfk.out, HH2.out]; rfl, Hb2.out⟩
        | true =>
         have HH2 := lH (show stepsA la k (l.drop k) = stepsA (stepLast l (k + 1)) (k + 1) (l.drop (k + 1)) by rw [hat, if_neg (by have := Hk0.out; have := Hx1.out; omega), if_neg (by rw [hby]; simp; omega)])
         clear hat
         go_wp2_with (go_at_call 69; refine (c69 _ _ _ _).mono ?_; rintro e w' ⟨rfl, rfl⟩)
         go_roundw
         case rel => exact ⟨k + 1, by omega, by go_num, by rw [Hla.out], by rw [Hfk.out, HH2.out], Hb2.out⟩
         case measure => simp [intOf]; omega
     ·by_cases hxl : x <= la
      all_goals
       have HH2 := lH (show stepsA la k (l.drop k) = 7 by rw [hat, if_pos (by have := Hk0.out; omega)])
       clear hat
       go_wp2
       go_ret
       exact ⟨by rw [HH.out, Hfk.out, HH2.out]; rfl, Hb2.out⟩
    ·have hki : ((k : Int) == 0) = false := by simpa using hk0
     have Hk0 := lH hk0
     clear hk0
     by_cases hxl : x <= la
     ·have HH2 := lH (show stepsA la k (l.drop k) = 7 by rw [hat, if_pos (by have := Hk0.out; omega)])
      clear hat
      go_wp2
      go_ret
      exact ⟨by rw [HH.out, Hfk.out, HH2.out]; rfl, Hb2.out⟩
     ·by_cases h20 : 20 < x
      ·have HH2 := lH (show stepsA la k (l.drop k) = 1 by rw [hat, if_neg (by have := Hk0.out; omega), if_pos (.inl h20)])
       clear hat
       go_wp2_with (go_at_call 69; refine (c69 _ _ _ _).mono ?_; rintro e w' ⟨rfl, rfl⟩)
       go_ret
       exact ⟨by rw [HH.out, Hfk.out, HH2.out]; rfl, Hb2.out⟩
      ·cases hby : btw y 0 99 with
       | false =>
        have HH2 := lH (show stepsA la k (l.drop k) = 1 by rw [hat, if_neg (by have := Hk0.out; omega), if_pos (.inr hby)])
        clear hat
        go_wp2_with (go_at_call 69; refine (c69 _ _ _ _).mono ?_; rintro e w' ⟨rfl, rfl⟩)
        go_ret
        exact ⟨by rw [HH.out, Hfk.out, HH2.out]; rfl, Hb2.out⟩
       | true =>
        have HH2 := lH (show stepsA la k (l.drop k) = stepsA (stepLast l (k + 1)) (k + 1) (l.drop (k + 1)) by rw [hat, if_neg (by have := Hk0.out; omega), if_neg (by rw [hby]; simp; omega)])
        clear hat
        go_wp2_with (go_at_call 69; refine (c69 _ _ _ _).mono ?_; rintro e w' ⟨rfl, rfl⟩)
        go_roundw
        case rel => exact ⟨k + 1, by omega, by go_num, by rw [Hla.out], by rw [Hfk.out, HH2.out], Hb2.out⟩
        case measure => simp [intOf]; omega
   ·have hke : l.length <= k := by omega
    go_wp2
    go_ret
    exact ⟨by rw [HH.out, Hfk.out, stepsA_end hke]; rfl, hb⟩
end Go.Proofs.YtaikibfkggglgaaDoor
namespace Go.Proofs.YtaikibfkggglgaaDoor
open Go.RowKit Go.Rent Go.Maps
theorem row147 : (147 : TypeId) < tP.types.size := of_decide_eq_true (by kernel_rfl)
theorem law147 : Keyed tP 147 := Keyed.of_law (deep_law_laid (by kernel_rfl) (m := 2) (by omega) row147 (by kernel_rfl) (by rw [Tryd.underlying147]))
theorem kt147 : tP.keyType 147 = true := by kernel_rfl
theorem co147 : tP.cellsOf 147 = 2 := by kernel_rfl
theorem co3 : tP.cellsOf 3 = 1 := by kernel_rfl
abbrev pairV (a b : Int) : Value := .agg #[.int .i64 a, .int .i64 b]
def i64ok (a : Int) : Prop := -9223372036854775808 <= a /\ a <= 9223372036854775807
theorem wf_i64 {a : Int} (h : i64ok a) : (Lit.int .i64 a).wf = true := by
 obtain ⟨h1, h2⟩ := h
 simp [Lit.wf, IntKind.min, IntKind.max, IntKind.bits, IntKind.signed]
 omega
theorem key_pair {P : Program} {k : TypeId} {f0 f1 : Field} (h : P.underlying k = some (.struct #[f0, f1])) (h3 : P.underlying 3 = some (.int .i64)) (t0 : f0.type = 3) (t1 : f1.type = 3) (o0 : f0.offset = 0) (o1 : f1.offset = 1) (n0 : (f0.name != "_") = true) (n1 : (f1.name != "_") = true)
  (kt : P.keyType k = true) (ck : P.cellsOf k = 2) (c3 : P.cellsOf 3 = 1) (hsz : 0 < P.types.size) {a b : Int} (ha : i64ok a) (hb : i64ok b) : keyOf P k (pairV a b) = some (.string (keyBytes [.int .i64 a, .int .i64 b])) := by
 have ha' := wf_i64 ha
 have hb' := wf_i64 hb
 obtain ⟨m, hm⟩ : ∃ m, P.types.size = m + 1 := ⟨P.types.size - 1, by omega⟩
 unfold keyOf
 rw [h]
 simp only
 rw [if_pos (by simp [kt, Value.formed, h, ck]), hm]
 unfold Program.keyLits
 rw [h]
 simp only [bne_iff_ne] at n0 n1
 simp [ck, c3, Value.cells, Program.keyLits, h3, ha', hb', t0, t1, o0, o1, n0, n1]
theorem key147 {a b : Int} (ha : i64ok a) (hb : i64ok b) : keyOf tP 147 (pairV a b) = some (.string (keyBytes [.int .i64 a, .int .i64 b])) :=
 key_pair Tryd.underlying147 Tryd.underlying3 rfl rfl rfl rfl (by decide) (by decide) kt147 co147 co3 (Nat.lt_of_le_of_lt (Nat.zero_le _) row147) ha hb
def memS (S : List (Int × Int)) (a b : Int) : Bool := S.any fun x => x.1 == a && x.2 == b
theorem memS_cons (S : List (Int × Int)) (p q a b : Int) : memS ((p, q) :: S) a b = ((p == a && q == b) || memS S a b) := rfl
theorem plainElem_bool_inv {H : Type} {P : Program} {e : TypeId} (he : P.underlying e = some .bool) {v : Value} {z : DataW H × List MemPlace} (h : plainElem P e v = some z) : ∃ a, v = .bool a /\ z = (.lit (.bool a), []) := by
 unfold plainElem at h
 rw [he] at h
 cases v <;> simp at h
 exact ⟨_, rfl, h.symm⟩
noncomputable abbrev plainB : Value -> Option (DataW Unit × List MemPlace) := plainElem tP 4
def SetP (w : World) (b n : Nat) (S : List (Int × Int)) : Prop :=
 ∃ D : DataW Unit, w.ownsMap tP 147 plainB b n D /\ ∀ (x y : Int) (kl : Lit), keyOf tP 147 (pairV x y) = some kl -> D.atKey kl (.lit (.bool false)) = .lit (.bool (memS S x y))
theorem SetP.made (w : World) : SetP (w.alloc (.map #[] 0)) w.heap.size 0 [] := ⟨.map [], World.ownsMap_made w _ _ _, fun _ _ _ _ => rfl⟩
theorem SetP.kept {w w' : World} {b n : Nat} {S : List (Int × Int)} (h : SetP w b n S) {row : Option Nat} (hg : w.grownBy w' row) (hne : some b ≠ row) : SetP w' b n S := by
 obtain ⟨D, h1, h2⟩ := h; exact ⟨D, h1.kept hg hne, h2⟩
theorem SetP.below {w w' : World} {b n m : Nat} {S : List (Int × Int)} (h : SetP w b n S) (hb : Below m w w') (hm : b < m) : SetP w' b n S := by
 obtain ⟨D, ⟨es, cl, h1, h3⟩, h2⟩ := h; exact ⟨D, ⟨es, cl, by rw [hb.block b hm]; exact h1, h3⟩, h2⟩
theorem SetP.lt {w : World} {b n : Nat} {S : List (Int × Int)} (h : SetP w b n S) : b < w.heap.size := by obtain ⟨D, h1, _⟩ := h; exact h1.lt
theorem zero4 (w : World) : (zeroValue 4).run tP w = .ok (.bool false) w := by kernel_rfl
theorem SetP.lookup {w : World} {b n : Nat} {S : List (Int × Int)} (h : SetP w b n S) {x y : Int} (hx : i64ok x) (hy : i64ok y) : (Instr.lookup 191 (.map (some b)) (pairV x y) false).run tP w = .ok (.bool (memS S x y)) w := by
 obtain ⟨D, h1, h2⟩ := h
 obtain ⟨v, ps, hrun, hv⟩ := h1.lookup law147 Tryd.underlying191 (zero4 w) (plainElem_bool Tryd.underlying4 false) (key147 hx hy)
 rw [h2 x y _ (key147 hx hy)] at hv
 have : v = .bool (memS S x y) := by
  obtain ⟨a, rfl, h3⟩ := plainElem_bool_inv Tryd.underlying4 hv
  simp only [Prod.mk.injEq, DataW.lit.injEq, Lit.bool.injEq] at h3
  rw [h3.1]
 rw [this] at hrun
 exact hrun
theorem SetP.update {w : World} {b n : Nat} {S : List (Int × Int)} (h : SetP w b n S) (hn : n < maxLen) {x y : Int} (hx : i64ok x) (hy : i64ok y) :
  ∃ w', (Instr.mapUpdate 191 (.map (some b)) (pairV x y) (.bool true)).run tP w = .ok () w' /\ SetP w' b (n + 1) ((x, y) :: S) /\ w.grownBy w' (some b) := by
 obtain ⟨D, h1, h2⟩ := h
 obtain ⟨w', hrun, hown, hg⟩ := h1.update law147 Tryd.underlying191 hn (key147 hx hy) (plainElem_bool Tryd.underlying4 true)
 refine ⟨w', hrun, ⟨_, hown, fun p q kl hkl => ?_⟩, hg⟩
 rw [memS_cons]
 by_cases e : (x == p && y == q) = true
 ·have e' : x = p /\ y = q := by simpa using e
  obtain ⟨rfl, rfl⟩ := e'
  rw [key147 hx hy] at hkl
  cases hkl
  rw [atKey_put_same h1.isMap (law147.key (key147 hx hy))]
  simp
 ·rw [atKey_put_other (fun e2 => e (by
   subst e2
   have := law147.inj (key147 hx hy) hkl
   simp only [Value.agg.injEq, Array.mk.injEq, List.cons.injEq, Value.int.injEq, true_and, and_true] at this
   simp [this])), h2 p q kl hkl]
  simp [e]
theorem wpList_lookup_set {S : List (Int × Int)} {w : World} {ops : Array Oper} {rest : List Oper} {o : Oper} {a : Act} {Q : Exit -> Act -> World -> Prop}
  (hg : o.guard = none) (m x : Operand) (hop : o.op = Op.lookup 191 m x false) (b n : Nat) (hm : a.eval m = .map (some b)) (p q : Int) (hx : a.eval x = pairV p q) (hown : SetP w b n S) (hp : i64ok p) (hq : i64ok q)
  (hK : wpList tP ops Q rest (a.put o.dst (.bool (memS S p q))) w) : wpList tP ops Q (o :: rest) a w := by
 refine wpList_plain hg fun K' hK' => ?_
 have hrun := hown.lookup hp hq
 unfold Oper.wp
 simp [execOp, hop, hm, hx, hrun, Result.andThen]
 exact hK' _ _ hK
theorem wpList_update_set {S : List (Int × Int)} {w : World} {ops : Array Oper} {rest : List Oper} {o : Oper} {a : Act} {Q : Exit -> Act -> World -> Prop}
  (hg : o.guard = none) (m x v : Operand) (hop : o.op = Op.mapUpdate 191 m x v) (b n : Nat) (hm : a.eval m = .map (some b)) (p q : Int) (hx : a.eval x = pairV p q) (hv : a.eval v = .bool true) (hown : SetP w b n S) (hn : n < maxLen) (hp : i64ok p) (hq : i64ok q)
  (hK : ∀ w', SetP w' b (n + 1) ((p, q) :: S) -> w.grownBy w' (some b) -> wpList tP ops Q rest (a.put o.dst undef) w') : wpList tP ops Q (o :: rest) a w := by
 refine wpList_plain hg fun K' hK' => ?_
 obtain ⟨w', hrun, h1, h2⟩ := hown.update hn hp hq
 unfold Oper.wp
 simp [execOp, hop, hm, hx, hv, hrun, Result.andThen]
 exact hK' _ _ (hK w' h1 h2)
end Go.Proofs.YtaikibfkggglgaaDoor
namespace Go.Proofs.YtaikibfkggglgaaDoor
open Go.RowKit Go.Rent
def prefS (l : List (Int × Int)) : Nat -> List (Int × Int)
 | 0 => []
 | k + 1 => match l[k]? with
  | some p => p :: prefS l k
  | none => prefS l k
theorem prefS_succ {l : List (Int × Int)} {k : Nat} {p : Int × Int} (h : l[k]? = some p) : prefS l (k + 1) = p :: prefS l k := by
 show (match l[k]? with | some p => p :: prefS l k | none => prefS l k) = _
 rw [h]
def linkBad (nt : Int) (i : Nat) (a b : Int) : Prop := ((i : Int) < nt - 1 /\ ¬ (a = 0 /\ b = (i : Int) + 1)) \/ (nt - 1 <= (i : Int) /\ (a = 0 \/ b <= a))
instance (nt : Int) (i : Nat) (a b : Int) : Decidable (linkBad nt i a b) := by unfold linkBad; infer_instance
def linksA (nt : Int) (i : Nat) (S : List (Int × Int)) : List Lnk -> Int
 | [] => 0
 | x :: l => if btw x.one 0 (nt - 1) = false \/ btw x.two 0 (nt - 1) = false then 6 else if linkBad nt i x.one x.two then 7 else if memS S x.one x.two then 5 else
  if alSteps x.steps = 0 then linksA nt (i + 1) ((x.one, x.two) :: S) l else alSteps x.steps
def lnkP (x : Lnk) : Int × Int := (x.one, x.two)
def alLinks (nt : Int) (ls : List Lnk) : Int := if btw ls.length (nt - 1) 6 then linksA nt 0 [] ls else 2
theorem linksA_at {nt : Int} {ls : List Lnk} {k : Nat} {x : Lnk} (h : ls[k]? = some x) : linksA nt k (prefS (ls.map lnkP) k) (ls.drop k) =
  if btw x.one 0 (nt - 1) = false \/ btw x.two 0 (nt - 1) = false then 6 else if linkBad nt k x.one x.two then 7 else if memS (prefS (ls.map lnkP) k) x.one x.two then 5 else
  if alSteps x.steps = 0 then linksA nt (k + 1) (prefS (ls.map lnkP) (k + 1)) (ls.drop (k + 1)) else alSteps x.steps := by
 rw [prefS_succ (p := (x.one, x.two)) (by rw [List.getElem?_map, h]; rfl)]
 obtain ⟨hl, rfl⟩ := lS.1 h
 conv => lhs; rw [List.drop_eq_getElem_cons hl]; unfold linksA
theorem linksA_end {nt : Int} {ls : List Lnk} {k : Nat} {S : List (Int × Int)} (h : ls.length <= k) : linksA nt k S (ls.drop k) = 0 := by rw [List.drop_of_length_le h]; rfl
def LkAt (w : World) (la : Option Addr) (ls : List Lnk) : Prop := ∀ (i : Nat) (L : Lnk), ls[i]? = some L -> ∃ b o sa sc, la = some ⟨b, o, none⟩ /\ w.cell? ⟨b, o + i * 3, none⟩ = some (.int .i64 L.one) /\ w.cell? ⟨b, o + i * 3 + 1, none⟩ = some (.int .i64 L.two) /\ w.cell? ⟨b, o + i * 3 + 2, none⟩ = some (.slice sa L.steps.length sc) /\ SlB w sa L.steps /\ L.steps.length <= 1000000
theorem LkAt.below {n : Nat} {w w' : World} {la : Option Addr} {ls : List Lnk} (h : LkAt w la ls) (hb : Below n w w') (hn : w.heap.size <= n) : LkAt w' la ls := fun i L hi => by
 obtain ⟨b, o, sa, sc, h1, h2, h3, h4, h5, h6⟩ := h i L hi
 exact ⟨b, o, sa, sc, h1, cell_below hb h2 hn, cell_below hb h3 hn, cell_below hb h4 hn, h5.below hb hn, h6⟩
theorem ne_of_false {b : Bool} (h : b = false) : ¬ b = true := by rw [h]; decide
def BoxB (w : World) (n : Nat) (h : Int) (t l p : Value) : Prop := n < w.heap.size /\ w.cell? ⟨n, 0, none⟩ = some (.int .i64 h) /\ w.cell? ⟨n, 1, none⟩ = some t /\ w.cell? ⟨n, 2, none⟩ = some l /\ w.cell? ⟨n, 3, none⟩ = some p
theorem BoxB.below {m n : Nat} {w w' : World} {h : Int} {t l p : Value} (b : BoxB w n h t l p) (hb : Below m w w') (hm : n < m) : BoxB w' n h t l p :=
 ⟨nL b.1 hb.size, by rw [(bcell hb).1 _ _ hm]; exact b.2.1, by rw [(bcell hb).1 _ _ hm]; exact b.2.2.1, by rw [(bcell hb).1 _ _ hm]; exact b.2.2.2.1, by rw [(bcell hb).1 _ _ hm]; exact b.2.2.2.2⟩
structure LkR (w : World) (n5 n6 bm k : Nat) (S : List (Int × Int)) (h : Int) (t l p : Value) (x0 x1 : Int) (x2 : Value) (sa : Option Addr) (st : List (Int × Int)) (wn : World) : Prop where
 below : Below w.heap.size w wn
 box : BoxB wn w.heap.size h t l p
 z5 : n5 < wn.heap.size
 z6 : n6 < wn.heap.size
 c0 : wn.cell? ⟨n5, 0, none⟩ = some (.int .i64 x0)
 c1 : wn.cell? ⟨n5, 1, none⟩ = some (.int .i64 x1)
 c2 : wn.cell? ⟨n5, 2, none⟩ = some x2
 d0 : wn.cell? ⟨n6, 0, none⟩ = some (.int .i64 x0)
 d1 : wn.cell? ⟨n6, 1, none⟩ = some (.int .i64 x1)
 set : SetP wn bm k S
 sl : SlB wn sa st
theorem LkR.step {w : World} {n5 n6 bm k : Nat} {S : List (Int × Int)} {h : Int} {t l p : Value} {x0 x1 : Int} {x2 : Value} {sa : Option Addr} {st : List (Int × Int)} {wn wm : World} (r : LkR w n5 n6 bm k S h t l p x0 x1 x2 sa st wn) (hb : Below wn.heap.size wn wm) : LkR w n5 n6 bm k S h t l p x0 x1 x2 sa st wm :=
 ⟨r.below.trans (hb.mono r.below.size), r.box.below hb r.box.1, nL r.z5 hb.size, nL r.z6 hb.size, by rw [(bcell hb).1 _ _ r.z5]; exact r.c0, by rw [(bcell hb).1 _ _ r.z5]; exact r.c1, by rw [(bcell hb).1 _ _ r.z5]; exact r.c2,
  by rw [(bcell hb).1 _ _ r.z6]; exact r.d0, by rw [(bcell hb).1 _ _ r.z6]; exact r.d1, r.set.below hb r.set.lt, r.sl.below hb (nR _)⟩
theorem LkR.after {w : World} {n5 n6 bm k : Nat} {S : List (Int × Int)} {h : Int} {t l p : Value} {x0 x1 : Int} {x2 : Value} {sa : Option Addr} {st : List (Int × Int)} {wn wm : World} (r : LkR w n5 n6 bm k S h t l p x0 x1 x2 sa st wn) (hg : wn.grownBy wm (some bm)) (hm : w.heap.size < bm) : Below w.heap.size w wm /\ BoxB wm w.heap.size h t l p := by
 have hne : some w.heap.size ≠ some bm := by simp; omega
 have hc : ∀ o, wm.cell? ⟨w.heap.size, o, none⟩ = wn.cell? ⟨w.heap.size, o, none⟩ := fun o => World.cell?_of_block (w := wn) (hg.block _ r.box.1 hne)
 refine ⟨r.below.grown hg r.below.size (fun q hq => by cases hq; omega), nL r.box.1 hg.size, ?_, ?_, ?_, ?_⟩
 ·rw [hc]; exact r.box.2.1
 ·rw [hc]; exact r.box.2.2.1
 ·rw [hc]; exact r.box.2.2.2.1
 ·rw [hc]; exact r.box.2.2.2.2
set_option maxHeartbeats 2000000 in
theorem c148 (h : Int) (ta : Option Addr) (nt tc : Nat) (la : Option Addr) (ls : List Lnk) (lc : Nat) (pa : Option Addr) (pn pc : Nat) (w : World) (hs : LkAt w la ls) (hl : ls.length <= 1000000) (hnt : nt <= 1000000) :
    Calls tP 148 #[.agg #[.int .i64 h, .slice ta nt tc, .slice la ls.length lc, .slice pa pn pc]] w fun e w' => e = .returned (.int .i64 (alLinks nt ls)) /\ Below w.heap.size w w' := by
  have Hs := lH hs
  clear hs
  have hntm : nt <= maxLen := by unfold maxLen; omega
  have hmm := @run_makeMap tP
  go_enter Tryd.func148, Tryd.ntmps148
  go_wp2_with fail
  generalize hbt : btw (ls.length : Int) ((nt : Int) - 1) 6 = bt
  go_region_held3 (fun w' => w'.cell? ⟨w.heap.size, 0, none⟩ = some (.int .i64 h) /\ w'.cell? ⟨w.heap.size, 1, none⟩ = some (.slice ta nt tc) /\ w'.cell? ⟨w.heap.size, 2, none⟩ = some (.slice la ls.length lc) /\ w'.cell? ⟨w.heap.size, 3, none⟩ = some (.slice pa pn pc))
    (first
      | go_keep
      | (go_split_ands
         obtain ⟨hc, hf⟩ := bcell hbel
         refine ⟨?_, ?_, ?_, ?_⟩ <;> (rw [hc _ _ (by simp)]; assumption)))
    (first | (go_simp; go_at_call 88; refine (c88 _ _ _ _ _ _ _ hntm).mono ?_; rintro e w1 ⟨rfl, hbel⟩) | (go_simp; go_at_call 69; refine (c69 _ _ _ _).mono ?_; rintro e w' ⟨rfl, rfl⟩))
  rename_i hHeld
  have hB1 : BoxB w1 w.heap.size h (.slice ta nt tc) (.slice la ls.length lc) (.slice pa pn pc) := ⟨by have := hbel.size; simp at this; omega, hHeld⟩
  have hbw : Below w.heap.size w w1 := ((bR _ _).alloc (nR _) _).drew.trans (hbel.mono (by simp))
  clear hbel hHeld
  cases bt with
  | false =>
    have HH := lH (show alLinks (nt : Int) ls = 2 by unfold alLinks; rw [hbt]; rfl)
    clear hbt
    go_wp2
    go_ret
    exact ⟨by rw [HH.out]; rfl, hbw⟩
  | true =>
    have HH := lH (show alLinks (nt : Int) ls = linksA nt 0 [] ls by unfold alLinks; rw [hbt]; rfl)
    clear hbt
    obtain ⟨hz1, hx0, hx1, hx2, hx3⟩ := hB1
    simp only [Bool.not_true]
    go_wp2_with fail
    have hset := SetP.made w1
    have hbm : w.heap.size < w1.heap.size := hz1
    have hbw2 := hbw.trans (((bR _ _).alloc (nR _) (.map #[] 0)).mono hbw.size)
    have hB2 : BoxB (w1.alloc (.map #[] 0)) w.heap.size h (.slice ta nt tc) (.slice la ls.length lc) (.slice pa pn pc) := BoxB.below ⟨hz1, hx0, hx1, hx2, hx3⟩ ((bR _ _).alloc (nR _) _) hz1
    generalize w1.alloc (.map #[] 0) = w2 at *
    generalize w1.heap.size = bm at *
    clear hx0 hx1 hx2 hx3 hbw
    go_loopw [21] (fun i wr => ∃ k : Nat, k <= ls.length /\ i = .int .i64 (k : Int) /\ linksA nt 0 [] ls = linksA nt k (prefS (ls.map lnkP) k) (ls.drop k) /\ Below w.heap.size w wr /\ BoxB wr w.heap.size h (.slice ta nt tc) (.slice la ls.length lc) (.slice pa pn pc) /\ SetP wr bm k (prefS (ls.map lnkP) k)) (fun i _ => ls.length - (intOf i).toNat)
    case atStart => exact ⟨0, Nat.zero_le _, rfl, rfl, hbw2, hB2, hset⟩
    case round =>
      obtain ⟨k, hk, rfl, hfk, hb, hB, hS⟩ := hrel
      have Hfk := lH hfk
      have HB := lH hB
      have HS := lH hS
      clear hfk hB hS hB2 hset hbw2
      by_cases hlt : k < ls.length
      · have hx : ls[k]? = some ls[k] := lG hlt
        obtain ⟨b, o, sa, sc, rfl, g0, g1, g2, g3, g4⟩ := (Hs.out.below hb (nR _)) k _ hx
        have hat := linksA_at (nt := nt) hx
        have hpx : (ls.map lnkP)[k]? = some ((ls[k]).one, (ls[k]).two) := by rw [List.getElem?_map, hx]; rfl
        generalize (ls[k]).one = x0 at *
        generalize (ls[k]).two = x1 at *
        generalize (ls[k]).steps = st at *
        have Hpx := lH hpx
        have G3 := lH g3
        have Hat := lH hat
        clear hx hpx g3 hat
        obtain ⟨q0, q1, q2, q3, q4⟩ := HB.out
        have R : Hid (LkR w wr.heap.size (wr.heap.size + 1) bm k (prefS (ls.map lnkP) k) h (.slice ta nt tc) (.slice (some ⟨b, o, none⟩) ls.length lc) (.slice pa pn pc) x0 x1 (.slice sa st.length sc) sa st ((wr.alloc (.cells #[.int .i64 x0, .int .i64 x1, .slice sa st.length sc] 79)).alloc (.cells #[.int .i64 x0, .int .i64 x1] 147))) :=
          lH ⟨hb.trans (((bR _ _).alloc (nR _) _).alloc (by simp) _ |>.mono hb.size), HB.out.below (((bR _ _).alloc (nR _) _).alloc (by simp) _) q0, by simp; omega, by simp, by go_simp, by go_simp, by go_simp, by go_simp, by go_simp, HS.out.below (((bR _ _).alloc (nR _) _).alloc (by simp) _) HS.out.lt, G3.out.below (((bR _ _).alloc (nR _) _).alloc (by simp) _) (nR _)⟩
        cases hb1 : btw x0 0 ((nt : Int) - 1) with
        | false =>
          have HH2 := lH ((Hat.out).trans (if_pos (.inl hb1)))
          go_wp2_with (first   | (go_at_call 152; refine (c152 _ _ _ _ _ _ _ _ hntm).mono ?_; rintro e wn ⟨rfl, hbn⟩; have R := lH (R.out.step hbn); obtain ⟨_, ⟨q0, q1, q2, q3, q4⟩, q5, q6, q7, q8, q9, q10, q11, _, _⟩ := R.out; clear hbn)   | (go_at_call 88; refine (c88 _ _ _ _ _ _ _ hntm).mono ?_; rintro e wn ⟨rfl, hbn⟩; have R := lH (R.out.step hbn); obtain ⟨_, ⟨q0, q1, q2, q3, q4⟩, q5, q6, q7, q8, q9, q10, q11, _, _⟩ := R.out; clear hbn))
          go_ret
          exact ⟨by rw [HH.out, Hfk.out, HH2.out]; rfl, R.out.below⟩
        | true =>
          cases hb2 : btw x1 0 ((nt : Int) - 1) with
          | false =>
            have HH2 := lH ((Hat.out).trans (if_pos (.inr hb2)))
            go_wp2_with (first   | (go_at_call 152; refine (c152 _ _ _ _ _ _ _ _ hntm).mono ?_; rintro e wn ⟨rfl, hbn⟩; have R := lH (R.out.step hbn); obtain ⟨_, ⟨q0, q1, q2, q3, q4⟩, q5, q6, q7, q8, q9, q10, q11, _, _⟩ := R.out; clear hbn)   | (go_at_call 88; refine (c88 _ _ _ _ _ _ _ hntm).mono ?_; rintro e wn ⟨rfl, hbn⟩; have R := lH (R.out.step hbn); obtain ⟨_, ⟨q0, q1, q2, q3, q4⟩, q5, q6, q7, q8, q9, q10, q11, _, _⟩ := R.out; clear hbn))
            go_ret
            exact ⟨by rw [HH.out, Hfk.out, HH2.out]; rfl, R.out.below⟩
          | true =>
            have Hb12 := lH (show _ /\ _ from ⟨hb1, hb2⟩)
            obtain ⟨hx00, hx01⟩ := btw_t hb1
            obtain ⟨hx10, hx11⟩ := btw_t hb2
            have hi0 : i64ok x0 := ⟨by omega, by omega⟩
            have hi1 : i64ok x1 := ⟨by omega, by omega⟩
            by_cases hkn : (k : Int) < (nt : Int) - 1
            · by_cases hx0 : x0 = 0
              · subst hx0
                by_cases hx1 : x1 = (k : Int) + 1
                · subst hx1
                  cases hme : memS (prefS (ls.map lnkP) k) 0 ((k : Int) + 1) with
                  | true =>
                    have HH2 := lH ((Hat.out).trans ((if_neg (by rw [Hb12.out.1, Hb12.out.2]; decide)).trans ((if_neg (by unfold linkBad; omega)).trans (if_pos hme))))
                    go_wp2_with (first   | (go_at_call 152; refine (c152 _ _ _ _ _ _ _ _ hntm).mono ?_; rintro e wn ⟨rfl, hbn⟩; have R := lH (R.out.step hbn); obtain ⟨_, ⟨q0, q1, q2, q3, q4⟩, q5, q6, q7, q8, q9, q10, q11, _, _⟩ := R.out; clear hbn)   | (go_at_call 88; refine (c88 _ _ _ _ _ _ _ hntm).mono ?_; rintro e wn ⟨rfl, hbn⟩; have R := lH (R.out.step hbn); obtain ⟨_, ⟨q0, q1, q2, q3, q4⟩, q5, q6, q7, q8, q9, q10, q11, _, _⟩ := R.out; clear hbn)   | (at_lookup; refine wpList_lookup_set rfl _ _ rfl bm k rfl _ _ rfl R.out.set hi0 hi1 ?_)   | (go_at_call 153; refine (c153 st sa _ sc _ rfl R.out.sl g4).mono ?_; rintro e wn ⟨rfl, hbn⟩; have R := lH (R.out.step hbn); obtain ⟨_, ⟨q0, q1, q2, q3, q4⟩, q5, q6, q7, q8, q9, q10, q11, _, _⟩ := R.out; clear hbn)   | (at_mapUpdate; refine wpList_update_set rfl _ _ _ rfl bm k rfl _ _ rfl rfl R.out.set (by unfold maxLen; omega) hi0 hi1 ?_; intro wm hset hgrow; have HA := lH (R.out.after hgrow hbm); have HT := lH hset; clear hset hgrow))
                    go_ret
                    exact ⟨by rw [HH.out, Hfk.out, HH2.out]; rfl, R.out.below⟩
                  | false =>
                    have Hme := lH hme
                    by_cases hst : alSteps st = 0
                    · have HH2 := lH ((Hat.out).trans ((if_neg (by rw [Hb12.out.1, Hb12.out.2]; decide)).trans ((if_neg (by unfold linkBad; omega)).trans ((if_neg (ne_of_false Hme.out)).trans (if_pos hst)))))
                      go_wp2_with (first   | (go_at_call 152; refine (c152 _ _ _ _ _ _ _ _ hntm).mono ?_; rintro e wn ⟨rfl, hbn⟩; have R := lH (R.out.step hbn); obtain ⟨_, ⟨q0, q1, q2, q3, q4⟩, q5, q6, q7, q8, q9, q10, q11, _, _⟩ := R.out; clear hbn)   | (go_at_call 88; refine (c88 _ _ _ _ _ _ _ hntm).mono ?_; rintro e wn ⟨rfl, hbn⟩; have R := lH (R.out.step hbn); obtain ⟨_, ⟨q0, q1, q2, q3, q4⟩, q5, q6, q7, q8, q9, q10, q11, _, _⟩ := R.out; clear hbn)   | (at_lookup; refine wpList_lookup_set rfl _ _ rfl bm k rfl _ _ rfl R.out.set hi0 hi1 ?_)   | (go_at_call 153; refine (c153 st sa _ sc _ rfl R.out.sl g4).mono ?_; rintro e wn ⟨rfl, hbn⟩; have R := lH (R.out.step hbn); obtain ⟨_, ⟨q0, q1, q2, q3, q4⟩, q5, q6, q7, q8, q9, q10, q11, _, _⟩ := R.out; clear hbn)   | (at_mapUpdate; refine wpList_update_set rfl _ _ _ rfl bm k rfl _ _ rfl rfl R.out.set (by unfold maxLen; omega) hi0 hi1 ?_; intro wm hset hgrow; have HA := lH (R.out.after hgrow hbm); have HT := lH hset; clear hset hgrow))
                      go_roundw
                      case rel => exact ⟨k + 1, by omega, by go_num, by rw [Hfk.out, HH2.out], HA.out.1, HA.out.2, by rw [prefS_succ Hpx.out]; exact HT.out⟩
                      case measure => simp [intOf]; omega
                    · have HH2 := lH ((Hat.out).trans ((if_neg (by rw [Hb12.out.1, Hb12.out.2]; decide)).trans ((if_neg (by unfold linkBad; omega)).trans ((if_neg (ne_of_false Hme.out)).trans (if_neg hst)))))
                      go_wp2_with (first   | (go_at_call 152; refine (c152 _ _ _ _ _ _ _ _ hntm).mono ?_; rintro e wn ⟨rfl, hbn⟩; have R := lH (R.out.step hbn); obtain ⟨_, ⟨q0, q1, q2, q3, q4⟩, q5, q6, q7, q8, q9, q10, q11, _, _⟩ := R.out; clear hbn)   | (go_at_call 88; refine (c88 _ _ _ _ _ _ _ hntm).mono ?_; rintro e wn ⟨rfl, hbn⟩; have R := lH (R.out.step hbn); obtain ⟨_, ⟨q0, q1, q2, q3, q4⟩, q5, q6, q7, q8, q9, q10, q11, _, _⟩ := R.out; clear hbn)   | (at_lookup; refine wpList_lookup_set rfl _ _ rfl bm k rfl _ _ rfl R.out.set hi0 hi1 ?_)   | (go_at_call 153; refine (c153 st sa _ sc _ rfl R.out.sl g4).mono ?_; rintro e wn ⟨rfl, hbn⟩; have R := lH (R.out.step hbn); obtain ⟨_, ⟨q0, q1, q2, q3, q4⟩, q5, q6, q7, q8, q9, q10, q11, _, _⟩ := R.out; clear hbn)   | (at_mapUpdate; refine wpList_update_set rfl _ _ _ rfl bm k rfl _ _ rfl rfl R.out.set (by unfold maxLen; omega) hi0 hi1 ?_; intro wm hset hgrow; have HA := lH (R.out.after hgrow hbm); have HT := lH hset; clear hset hgrow))
                      go_ret
                      exact ⟨by rw [HH.out, Hfk.out, HH2.out]; rfl, R.out.below⟩
                · have hx1' : ¬ (k : Int) + 1 = x1 := fun e => hx1 e.symm
                  have HH2 := lH ((Hat.out).trans ((if_neg (by rw [Hb12.out.1, Hb12.out.2]; decide)).trans (if_pos (by unfold linkBad; omega))))
                  go_wp2_with (first   | (go_at_call 152; refine (c152 _ _ _ _ _ _ _ _ hntm).mono ?_; rintro e wn ⟨rfl, hbn⟩; have R := lH (R.out.step hbn); obtain ⟨_, ⟨q0, q1, q2, q3, q4⟩, q5, q6, q7, q8, q9, q10, q11, _, _⟩ := R.out; clear hbn)   | (go_at_call 88; refine (c88 _ _ _ _ _ _ _ hntm).mono ?_; rintro e wn ⟨rfl, hbn⟩; have R := lH (R.out.step hbn); obtain ⟨_, ⟨q0, q1, q2, q3, q4⟩, q5, q6, q7, q8, q9, q10, q11, _, _⟩ := R.out; clear hbn)   | (at_lookup; refine wpList_lookup_set rfl _ _ rfl bm k rfl _ _ rfl R.out.set hi0 hi1 ?_)   | (go_at_call 153; refine (c153 st sa _ sc _ rfl R.out.sl g4).mono ?_; rintro e wn ⟨rfl, hbn⟩; have R := lH (R.out.step hbn); obtain ⟨_, ⟨q0, q1, q2, q3, q4⟩, q5, q6, q7, q8, q9, q10, q11, _, _⟩ := R.out; clear hbn)   | (at_mapUpdate; refine wpList_update_set rfl _ _ _ rfl bm k rfl _ _ rfl rfl R.out.set (by unfold maxLen; omega) hi0 hi1 ?_; intro wm hset hgrow; have HA := lH (R.out.after hgrow hbm); have HT := lH hset; clear hset hgrow))
                  go_ret
                  exact ⟨by rw [HH.out, Hfk.out, HH2.out]; rfl, R.out.below⟩
              · have hx0' : ¬ 0 = x0 := fun e => hx0 e.symm
                have HH2 := lH ((Hat.out).trans ((if_neg (by rw [Hb12.out.1, Hb12.out.2]; decide)).trans (if_pos (by unfold linkBad; omega))))
                go_wp2_with (first   | (go_at_call 152; refine (c152 _ _ _ _ _ _ _ _ hntm).mono ?_; rintro e wn ⟨rfl, hbn⟩; have R := lH (R.out.step hbn); obtain ⟨_, ⟨q0, q1, q2, q3, q4⟩, q5, q6, q7, q8, q9, q10, q11, _, _⟩ := R.out; clear hbn)   | (go_at_call 88; refine (c88 _ _ _ _ _ _ _ hntm).mono ?_; rintro e wn ⟨rfl, hbn⟩; have R := lH (R.out.step hbn); obtain ⟨_, ⟨q0, q1, q2, q3, q4⟩, q5, q6, q7, q8, q9, q10, q11, _, _⟩ := R.out; clear hbn)   | (at_lookup; refine wpList_lookup_set rfl _ _ rfl bm k rfl _ _ rfl R.out.set hi0 hi1 ?_)   | (go_at_call 153; refine (c153 st sa _ sc _ rfl R.out.sl g4).mono ?_; rintro e wn ⟨rfl, hbn⟩; have R := lH (R.out.step hbn); obtain ⟨_, ⟨q0, q1, q2, q3, q4⟩, q5, q6, q7, q8, q9, q10, q11, _, _⟩ := R.out; clear hbn)   | (at_mapUpdate; refine wpList_update_set rfl _ _ _ rfl bm k rfl _ _ rfl rfl R.out.set (by unfold maxLen; omega) hi0 hi1 ?_; intro wm hset hgrow; have HA := lH (R.out.after hgrow hbm); have HT := lH hset; clear hset hgrow))
                go_ret
                exact ⟨by rw [HH.out, Hfk.out, HH2.out]; rfl, R.out.below⟩
            · by_cases hx0 : x0 = 0
              · subst hx0
                have HH2 := lH ((Hat.out).trans ((if_neg (by rw [Hb12.out.1, Hb12.out.2]; decide)).trans (if_pos (by unfold linkBad; omega))))
                go_wp2_with (first   | (go_at_call 152; refine (c152 _ _ _ _ _ _ _ _ hntm).mono ?_; rintro e wn ⟨rfl, hbn⟩; have R := lH (R.out.step hbn); obtain ⟨_, ⟨q0, q1, q2, q3, q4⟩, q5, q6, q7, q8, q9, q10, q11, _, _⟩ := R.out; clear hbn)   | (go_at_call 88; refine (c88 _ _ _ _ _ _ _ hntm).mono ?_; rintro e wn ⟨rfl, hbn⟩; have R := lH (R.out.step hbn); obtain ⟨_, ⟨q0, q1, q2, q3, q4⟩, q5, q6, q7, q8, q9, q10, q11, _, _⟩ := R.out; clear hbn)   | (at_lookup; refine wpList_lookup_set rfl _ _ rfl bm k rfl _ _ rfl R.out.set hi0 hi1 ?_)   | (go_at_call 153; refine (c153 st sa _ sc _ rfl R.out.sl g4).mono ?_; rintro e wn ⟨rfl, hbn⟩; have R := lH (R.out.step hbn); obtain ⟨_, ⟨q0, q1, q2, q3, q4⟩, q5, q6, q7, q8, q9, q10, q11, _, _⟩ := R.out; clear hbn)   | (at_mapUpdate; refine wpList_update_set rfl _ _ _ rfl bm k rfl _ _ rfl rfl R.out.set (by unfold maxLen; omega) hi0 hi1 ?_; intro wm hset hgrow; have HA := lH (R.out.after hgrow hbm); have HT := lH hset; clear hset hgrow))
                go_ret
                exact ⟨by rw [HH.out, Hfk.out, HH2.out]; rfl, R.out.below⟩
              · have hx0b : (x0 == 0) = false := by simpa using hx0
                by_cases hge : x1 <= x0
                · skip
                  have HH2 := lH ((Hat.out).trans ((if_neg (by rw [Hb12.out.1, Hb12.out.2]; decide)).trans (if_pos (by unfold linkBad; omega))))
                  go_wp2_with (first   | (go_at_call 152; refine (c152 _ _ _ _ _ _ _ _ hntm).mono ?_; rintro e wn ⟨rfl, hbn⟩; have R := lH (R.out.step hbn); obtain ⟨_, ⟨q0, q1, q2, q3, q4⟩, q5, q6, q7, q8, q9, q10, q11, _, _⟩ := R.out; clear hbn)   | (go_at_call 88; refine (c88 _ _ _ _ _ _ _ hntm).mono ?_; rintro e wn ⟨rfl, hbn⟩; have R := lH (R.out.step hbn); obtain ⟨_, ⟨q0, q1, q2, q3, q4⟩, q5, q6, q7, q8, q9, q10, q11, _, _⟩ := R.out; clear hbn)   | (at_lookup; refine wpList_lookup_set rfl _ _ rfl bm k rfl _ _ rfl R.out.set hi0 hi1 ?_)   | (go_at_call 153; refine (c153 st sa _ sc _ rfl R.out.sl g4).mono ?_; rintro e wn ⟨rfl, hbn⟩; have R := lH (R.out.step hbn); obtain ⟨_, ⟨q0, q1, q2, q3, q4⟩, q5, q6, q7, q8, q9, q10, q11, _, _⟩ := R.out; clear hbn)   | (at_mapUpdate; refine wpList_update_set rfl _ _ _ rfl bm k rfl _ _ rfl rfl R.out.set (by unfold maxLen; omega) hi0 hi1 ?_; intro wm hset hgrow; have HA := lH (R.out.after hgrow hbm); have HT := lH hset; clear hset hgrow))
                  go_ret
                  exact ⟨by rw [HH.out, Hfk.out, HH2.out]; rfl, R.out.below⟩
                · skip
                  cases hme : memS (prefS (ls.map lnkP) k) x0 x1 with
                  | true =>
                    have HH2 := lH ((Hat.out).trans ((if_neg (by rw [Hb12.out.1, Hb12.out.2]; decide)).trans ((if_neg (by unfold linkBad; omega)).trans (if_pos hme))))
                    go_wp2_with (first   | (go_at_call 152; refine (c152 _ _ _ _ _ _ _ _ hntm).mono ?_; rintro e wn ⟨rfl, hbn⟩; have R := lH (R.out.step hbn); obtain ⟨_, ⟨q0, q1, q2, q3, q4⟩, q5, q6, q7, q8, q9, q10, q11, _, _⟩ := R.out; clear hbn)   | (go_at_call 88; refine (c88 _ _ _ _ _ _ _ hntm).mono ?_; rintro e wn ⟨rfl, hbn⟩; have R := lH (R.out.step hbn); obtain ⟨_, ⟨q0, q1, q2, q3, q4⟩, q5, q6, q7, q8, q9, q10, q11, _, _⟩ := R.out; clear hbn)   | (at_lookup; refine wpList_lookup_set rfl _ _ rfl bm k rfl _ _ rfl R.out.set hi0 hi1 ?_)   | (go_at_call 153; refine (c153 st sa _ sc _ rfl R.out.sl g4).mono ?_; rintro e wn ⟨rfl, hbn⟩; have R := lH (R.out.step hbn); obtain ⟨_, ⟨q0, q1, q2, q3, q4⟩, q5, q6, q7, q8, q9, q10, q11, _, _⟩ := R.out; clear hbn)   | (at_mapUpdate; refine wpList_update_set rfl _ _ _ rfl bm k rfl _ _ rfl rfl R.out.set (by unfold maxLen; omega) hi0 hi1 ?_; intro wm hset hgrow; have HA := lH (R.out.after hgrow hbm); have HT := lH hset; clear hset hgrow))
                    go_ret
                    exact ⟨by rw [HH.out, Hfk.out, HH2.out]; rfl, R.out.below⟩
                  | false =>
                    have Hme := lH hme
                    by_cases hst : alSteps st = 0
                    · have HH2 := lH ((Hat.out).trans ((if_neg (by rw [Hb12.out.1, Hb12.out.2]; decide)).trans ((if_neg (by unfold linkBad; omega)).trans ((if_neg (ne_of_false Hme.out)).trans (if_pos hst)))))
                      go_wp2_with (first   | (go_at_call 152; refine (c152 _ _ _ _ _ _ _ _ hntm).mono ?_; rintro e wn ⟨rfl, hbn⟩; have R := lH (R.out.step hbn); obtain ⟨_, ⟨q0, q1, q2, q3, q4⟩, q5, q6, q7, q8, q9, q10, q11, _, _⟩ := R.out; clear hbn)   | (go_at_call 88; refine (c88 _ _ _ _ _ _ _ hntm).mono ?_; rintro e wn ⟨rfl, hbn⟩; have R := lH (R.out.step hbn); obtain ⟨_, ⟨q0, q1, q2, q3, q4⟩, q5, q6, q7, q8, q9, q10, q11, _, _⟩ := R.out; clear hbn)   | (at_lookup; refine wpList_lookup_set rfl _ _ rfl bm k rfl _ _ rfl R.out.set hi0 hi1 ?_)   | (go_at_call 153; refine (c153 st sa _ sc _ rfl R.out.sl g4).mono ?_; rintro e wn ⟨rfl, hbn⟩; have R := lH (R.out.step hbn); obtain ⟨_, ⟨q0, q1, q2, q3, q4⟩, q5, q6, q7, q8, q9, q10, q11, _, _⟩ := R.out; clear hbn)   | (at_mapUpdate; refine wpList_update_set rfl _ _ _ rfl bm k rfl _ _ rfl rfl R.out.set (by unfold maxLen; omega) hi0 hi1 ?_; intro wm hset hgrow; have HA := lH (R.out.after hgrow hbm); have HT := lH hset; clear hset hgrow))
                      go_roundw
                      case rel => exact ⟨k + 1, by omega, by go_num, by rw [Hfk.out, HH2.out], HA.out.1, HA.out.2, by rw [prefS_succ Hpx.out]; exact HT.out⟩
                      case measure => simp [intOf]; omega
                    · have HH2 := lH ((Hat.out).trans ((if_neg (by rw [Hb12.out.1, Hb12.out.2]; decide)).trans ((if_neg (by unfold linkBad; omega)).trans ((if_neg (ne_of_false Hme.out)).trans (if_neg hst)))))
                      go_wp2_with (first   | (go_at_call 152; refine (c152 _ _ _ _ _ _ _ _ hntm).mono ?_; rintro e wn ⟨rfl, hbn⟩; have R := lH (R.out.step hbn); obtain ⟨_, ⟨q0, q1, q2, q3, q4⟩, q5, q6, q7, q8, q9, q10, q11, _, _⟩ := R.out; clear hbn)   | (go_at_call 88; refine (c88 _ _ _ _ _ _ _ hntm).mono ?_; rintro e wn ⟨rfl, hbn⟩; have R := lH (R.out.step hbn); obtain ⟨_, ⟨q0, q1, q2, q3, q4⟩, q5, q6, q7, q8, q9, q10, q11, _, _⟩ := R.out; clear hbn)   | (at_lookup; refine wpList_lookup_set rfl _ _ rfl bm k rfl _ _ rfl R.out.set hi0 hi1 ?_)   | (go_at_call 153; refine (c153 st sa _ sc _ rfl R.out.sl g4).mono ?_; rintro e wn ⟨rfl, hbn⟩; have R := lH (R.out.step hbn); obtain ⟨_, ⟨q0, q1, q2, q3, q4⟩, q5, q6, q7, q8, q9, q10, q11, _, _⟩ := R.out; clear hbn)   | (at_mapUpdate; refine wpList_update_set rfl _ _ _ rfl bm k rfl _ _ rfl rfl R.out.set (by unfold maxLen; omega) hi0 hi1 ?_; intro wm hset hgrow; have HA := lH (R.out.after hgrow hbm); have HT := lH hset; clear hset hgrow))
                      go_ret
                      exact ⟨by rw [HH.out, Hfk.out, HH2.out]; rfl, R.out.below⟩
      · have hke : ls.length <= k := by omega
        go_wp2
        go_ret
        exact ⟨by rw [HH.out, Hfk.out, linksA_end hke]; rfl, hb⟩
end Go.Proofs.YtaikibfkggglgaaDoor
