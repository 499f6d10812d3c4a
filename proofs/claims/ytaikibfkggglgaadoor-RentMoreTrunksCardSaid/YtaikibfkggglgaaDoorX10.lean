/- A part of the proof of RentMoreTrunks; no conditions of its own. -/
import Derived.Test.YtaikibfkggglgaaDoorX09
import Derived.Conc.Own2
import Derived.Below
set_option maxRecDepth 100000
open Array renaming getElem?_eq_some_iff → aS
open List renaming getElem?_eq_some_iff → lS
open Array renaming getElem?_eq_getElem → aG
open Option.some renaming injEq → oI
namespace Go.Tp
open Go.Conc Go.ConcN
section
variable {P : Program} {φ : Ph} {Fin : Hold -> Goroutine -> World -> Prop} {n k : Nat} {D : List Nat} {l : List (Option X)} {gs : Array Goroutine} {u : World} {t : Trace} {q : Nat -> Nat} {H : Nat -> Hold}
theorem Ext.at {u0 u : World} (h : Ext u0 u) (d : Nat) : Ext u0 (u.at d) := ⟨h.size, h.keep, h.same⟩
theorem Inv.slip (h : Inv P φ Fin n k D l gs u t q H) {i : Nat} (h0 : i ≠ 0) (hl : l[i]? = some none) (hk : ¬ Kid φ k D i) (d : Nat) {g' : Goroutine} {es : Array Event} (fn : FuncId) (pos : String) {m : Nat} (hm : ∀ e ∈ es, e.mute = true) (hq : QuitsD P m (deafBehind (Deaf t i) es) g') :
  Inv P φ Fin n k D l (gs.setIfInBounds i g') (u.at d) (t ++ MemOp.ofEvents i fn pos es) (upd q i m) H := by
 have hlt := h.lt hl
 have hset : ∀ j, j ≠ i -> (gs.setIfInBounds i g')[j]? = gs[j]? := fun j hj => Array.getElem?_setIfInBounds_ne (Ne.symm hj)
 have hdeaf : ∀ j, j ≠ i -> Deaf (t ++ MemOp.ofEvents i fn pos es) j = Deaf t j := fun j hj => Deaf_other t (g := j) (g' := i) (Ne.symm hj) _ g_ofEvents
 have hni : ∀ j, Ac (Kid φ k D) j -> j ≠ i := fun j hj e => by subst e; exact hj.elim h0 hk
 refine ⟨h.cnt, h.kle, h.dnd, h.dlt, h.dpos, by simpa using h.len, by simpa using h.size, fun j z hj => ?_, h.kidp, fun j g hj0 hj hg => ?_, fun hj => ?_, ?_, h.apt, h.low, h.base, h.ext.at d, fun j hj => ?_, h.chans⟩
 ·have e : j ≠ i := fun e => by subst e; rw [hl] at hj; cases hj
  obtain ⟨h1, h2, h3, h4⟩ := h.priv j z hj
  exact ⟨by rw [hset j e]; exact h1, h2, h3.trans (Off.at _ _ _), h4⟩
 ·by_cases e : j = i
  ·subst e
   rw [Array.getElem?_setIfInBounds_self_of_lt hlt, oI] at hg
   subst hg
   exact .inr ⟨hk, by rw [upd_same, Deaf_own]; exact hq⟩
  ·rw [hset j e] at hg
   rw [hdeaf j e, upd_ne q _ e]
   exact h.rest j g hj0 hj hg
 ·obtain ⟨g₂, n', h1, h2, h3, h4, h5⟩ := h.main hj
  exact ⟨g₂, n', by rw [hset 0 (Ne.symm h0)]; exact h1, h2, h3, fun mm hmm hD u' ho => h4 mm hmm hD u' ((Off.at _ _ d).trans ho), h5⟩
 ·refine h.tr.mute (fun op hop => by obtain ⟨e, he, rfl⟩ := Go.Conc.mem_ofEvents hop; exact touch_mute (hm e he)) (fun op hop => by obtain ⟨e, he, rfl⟩ := Go.Conc.mem_ofEvents hop; exact low_mute (hm e he) _) fun j hj => ?_
  rw [hdeaf j (hni j hj)]
  exact h.tr.hears j hj
 ·have hj' : gs.size <= j := by simpa using hj
  rw [hdeaf j (by omega)]
  exact h.above j hj'
theorem Inv.spawn (h : Inv P φ Fin (n + 1) k D l gs u t q H) (hk : k < φ.Hn) (d : Nat) {g' child : Goroutine} (hg : g'.status = .running) (hc : child.status = .running) {o1 o2 : MemOp}
  (h1 : o1.g = 0 /\ o1.act = .go gs.size) (h2 : o2.g = gs.size /\ o2.act = .start) :
  Inv P φ Fin n (k + 1) D (l.set 0 (some (⟨fun _ => False, fun b => (H 0).mine b \/ (H 0).sh b⟩, g', u.at d)) ++ [some (⟨fun _ => False, fun b => (H 0).mine b \/ (H 0).sh b⟩, child, u.at d)]) ((gs.setIfInBounds 0 g').push child) (u.at d) (t ++ #[o1, o2]) q
   (upd (upd H 0 ⟨fun _ => False, fun b => (H 0).mine b \/ (H 0).sh b⟩) gs.size ⟨fun _ => False, fun b => (H 0).mine b \/ (H 0).sh b⟩) := by
 have hpos := h.pos
 have hD := h.dpos hk
 have hsz := h.size
 have hn0 := φ.pos
 generalize hhn : (⟨fun _ => False, fun b => (H 0).mine b \/ (H 0).sh b⟩ : Hold) = hn at *
 have hmine : ∀ b, ¬ hn.mine b := fun b => by rw [<- hhn]; exact fun x => x
 have hsh : ∀ b, hn.sh b -> (H 0).mine b \/ (H 0).sh b := fun b => by rw [<- hhn]; exact fun x => x
 have hkid : ∀ c, Kid φ (k + 1) D c ↔ Kid φ k D c \/ c = gs.size := by
  intro c
  subst hD
  unfold Kid
  simp only [List.not_mem_nil, not_false_eq_true, and_true]
  omega
 have hnew : ¬ Kid φ k D gs.size := fun x => by have := x.2.1; omega
 have hkl : ∀ c, Kid φ k D c -> c < gs.size := fun c hc => by have := hc.2.1; omega
 have hH0 : upd (upd H 0 hn) gs.size hn 0 = hn := by rw [upd_ne _ _ (by omega), upd_same]
 have hHc : upd (upd H 0 hn) gs.size hn gs.size = hn := upd_same _ _ _
 have hHz : ∀ z, z ≠ 0 -> z ≠ gs.size -> upd (upd H 0 hn) gs.size hn z = H z := fun z a b => by rw [upd_ne _ _ b, upd_ne _ _ a]
 have hother : ∀ b z, hn.sh b -> Kid φ k D z -> ¬ (H z).mine b := fun b z hb hz hm => by
  rcases hsh b hb with hb | hb
  ·exact h.apt.mm 0 z b (.inl rfl) (.inr hz) (Ne.symm hz.ne0) hb hm
  ·exact h.apt.ms z 0 b (.inr hz) (.inl rfl) hm hb
 have hlen : (l.set 0 (some (hn, g', u.at d))).length = gs.size := by simpa using h.len
 have hset : ∀ j, j ≠ 0 -> j < gs.size -> ((gs.setIfInBounds 0 g').push child)[j]? = gs[j]? := fun j a b => by
  rw [Array.getElem?_push, if_neg (by simp; omega), Array.getElem?_setIfInBounds_ne (Ne.symm a)]
 have hl0 : (l.set 0 (some (hn, g', u.at d)) ++ [some (hn, child, u.at d)])[0]? = some (some (hn, g', u.at d)) := by
  rw [List.getElem?_append_left (by omega), List.getElem?_set_self (by rw [h.len]; exact hpos)]
 have hlc : (l.set 0 (some (hn, g', u.at d)) ++ [some (hn, child, u.at d)])[gs.size]? = some (some (hn, child, u.at d)) := by
  rw [List.getElem?_append_right (by omega), hlen]; simp
 have hlj : ∀ j, j ≠ 0 -> j < gs.size -> (l.set 0 (some (hn, g', u.at d)) ++ [some (hn, child, u.at d)])[j]? = l[j]? := fun j a b => by
  rw [List.getElem?_append_left (by omega), List.getElem?_set_ne (Ne.symm a)]
 have hjlt : ∀ {j : Nat} {o : Option X}, (l.set 0 (some (hn, g', u.at d)) ++ [some (hn, child, u.at d)])[j]? = some o -> j <= gs.size := fun {j o} hj => by
  have := (lS.1 hj).1
  simp only [List.length_append, List.length_cons, List.length_nil, hlen] at this
  omega
 have hcases : ∀ j, j <= gs.size -> j = 0 \/ j = gs.size \/ (j ≠ 0 /\ j < gs.size) := fun j hj => by omega
 have hpl : ∀ op ∈ #[o1, o2], op.act ≠ .mark .disable /\ op.act ≠ .mark .enable := fun op hop => by
  simp only [List.mem_toArray, List.mem_cons, List.not_mem_nil, or_false] at hop
  rcases hop with rfl | rfl
  ·rw [h1.2]; exact ⟨by simp, by simp⟩
  ·rw [h2.2]; exact ⟨by simp, by simp⟩
 refine ⟨by have := h.cnt; omega, by omega, h.dnd, fun x hx => Nat.lt_succ_of_lt (h.dlt x hx), fun _ => hD, by simp [h.len], by simp; omega, fun j z hj => ?_, fun j z hj0 hj => ?_, fun j g hj0 hj hg => ?_, fun hj => ?_, ?_, ?_, fun j b hj hb => ?_, fun j b hj hb => ?_, h.ext.at d, fun j hj => ?_, h.chans⟩
 ·rcases hcases j (hjlt hj) with rfl | rfl | ⟨a, b⟩
  ·rw [hl0, oI, oI] at hj
   subst hj
   exact ⟨by rw [Array.getElem?_push, if_neg (by simp; omega)]; simp [hpos], hH0.symm, Off.refl _ _, hg⟩
  ·rw [hlc, oI, oI] at hj
   subst hj
   exact ⟨by rw [Array.getElem?_push, if_pos (by simp)], hHc.symm, Off.refl _ _, hc⟩
  ·rw [hlj j a b] at hj
   obtain ⟨q1, q2, q3, q4⟩ := h.priv j z hj
   rw [hset j a b, hHz j a (by omega)]
   exact ⟨q1, q2, q3.trans (Off.at _ _ _), q4⟩
 ·rcases hcases j (hjlt hj) with rfl | rfl | ⟨a, b⟩
  ·exact absurd rfl hj0
  ·exact (hkid _).2 (.inr rfl)
  ·rw [hlj j a b] at hj
   exact (hkid _).2 (.inl (h.kidp j z hj0 hj))
 ·rcases hcases j (hjlt hj) with rfl | rfl | ⟨a, b⟩
  ·exact absurd rfl hj0
  ·rw [hlc] at hj; cases hj
  ·rw [hlj j a b] at hj
   rw [hset j a b] at hg
   rw [Deaf_plain t _ j hpl]
   rcases h.rest j g hj0 hj hg with ⟨p1, p2⟩ | ⟨p1, p2⟩
   ·exact .inl ⟨(hkid _).2 (.inl p1), p2⟩
   ·exact .inr ⟨fun x => ((hkid _).1 x).elim p1 (by omega), p2⟩
 ·rw [hl0] at hj; cases hj
 ·exact h.tr.fork (by omega) (h.above _ (Nat.le_refl _)) h1 h2 hkid (fun z hz hz0 => hHz z hz0 (by have := hkl z hz; omega)) (fun b => by rw [hHc]; exact hmine b) (fun b hb z hz hz0 => by rw [hHc] at hb; exact hother b z hb hz) hnew
 ·have hin : ∀ j, Ac (Kid φ (k + 1) D) j -> j = 0 \/ j = gs.size \/ (Kid φ k D j /\ upd (upd H 0 hn) gs.size hn j = H j) := fun j hj => by
   rcases hj with rfl | hj
   ·exact .inl rfl
   ·rcases (hkid j).1 hj with hj | hj
    ·exact .inr (.inr ⟨hj, hHz j hj.ne0 (by have := hkl j hj; omega)⟩)
    ·exact .inr (.inl hj)
  have nomine : ∀ j b, (j = 0 \/ j = gs.size) -> ¬ (upd (upd H 0 hn) gs.size hn j).mine b := fun j b hj => by
   rcases hj with rfl | rfl
   ·rw [hH0]; exact hmine b
   ·rw [hHc]; exact hmine b
  refine ⟨fun a b c ha hb hab hm hm' => ?_, fun a b c ha hb hm hm' => ?_⟩
  ·rcases hin a ha with e | e | ⟨ka, ea⟩
   ·exact nomine a c (.inl e) hm
   ·exact nomine a c (.inr e) hm
   rcases hin b hb with e | e | ⟨kb, eb⟩
   ·exact nomine b c (.inl e) hm'
   ·exact nomine b c (.inr e) hm'
   rw [ea] at hm
   rw [eb] at hm'
   exact h.apt.mm a b c (.inr ka) (.inr kb) hab hm hm'
  ·rcases hin a ha with e | e | ⟨ka, ea⟩
   ·exact nomine a c (.inl e) hm
   ·exact nomine a c (.inr e) hm
   rw [ea] at hm
   rcases hin b hb with rfl | rfl | ⟨kb, eb⟩
   ·rw [hH0] at hm'; exact hother c a hm' ka hm
   ·rw [hHc] at hm'; exact hother c a hm' ka hm
   ·rw [eb] at hm'
    exact h.apt.ms a b c (.inr ka) (.inr kb) hm hm'
 ·have hnlow : hn.mine b \/ hn.sh b -> b < (u.at d).heap.size /\ b ≠ φ.chA /\ b ≠ φ.chB := fun hb => by
   rcases hb with hb | hb
   ·exact absurd hb (hmine b)
   ·exact h.low 0 b (.inl rfl) (hsh b hb)
  rcases hj with rfl | hj
  ·rw [hH0] at hb; exact hnlow hb
  ·rcases (hkid j).1 hj with hj | rfl
   ·rw [hHz j hj.ne0 (by have := hkl j hj; omega)] at hb
    exact h.low j b (.inr hj) hb
   ·rw [hHc] at hb; exact hnlow hb
 ·rcases hj with rfl | hj
  ·rw [hH0] at hb; exact absurd hb (hmine b)
  ·rcases (hkid j).1 hj with hj | rfl
   ·rw [hHz j hj.ne0 (by have := hkl j hj; omega)] at hb
    exact h.base j b (.inr hj) hb
   ·rw [hHc] at hb; exact absurd hb (hmine b)
 ·have hj' : gs.size <= j := by simp at hj; omega
  rw [Deaf_plain t _ j hpl]
  exact h.above j hj'
theorem Inv.parkMain (h : Inv P φ Fin (n + 1) k D l gs u t q H) {x : X} (hl : l[0]? = some (some x)) (hk : k = φ.Hn) (d : Nat) {g₂ : Goroutine}
  (hK : ∀ m, m < φ.Hn -> ∀ u', Off (H 0) (u.at d) u' -> m ∉ D -> RunM P true (StopMain P φ Fin n k (m :: D)) (H 0, g₂.finishComm P φ.cases .select (if φ.isA m then 0 else 1) (φ.val m) true, u'))
  (hno : ∀ i g, Kid φ k D i -> l[i]? = some none -> gs[i]? = some g -> False) :
  Inv P φ Fin (n + 1) k D (l.set 0 none) (gs.setIfInBounds 0 (parked g₂ φ.cases .select)) (u.at d) t q H := by
 have hlt := h.lt hl
 have hset : ∀ j, j ≠ 0 -> (gs.setIfInBounds 0 (parked g₂ φ.cases .select))[j]? = gs[j]? := fun j hj => Array.getElem?_setIfInBounds_ne (Ne.symm hj)
 have hls : ∀ j, j ≠ 0 -> (l.set 0 none)[j]? = l[j]? := fun j hj => List.getElem?_set_ne (Ne.symm hj)
 refine ⟨h.cnt, h.kle, h.dnd, h.dlt, h.dpos, by simpa using h.len, by simpa using h.size, fun j z hj => ?_, fun j z h0 hj => ?_, fun j g h0 hj hg => ?_, fun _ => ?_, h.tr, h.apt, h.low, h.base, h.ext.at d, fun j hj => h.above j (by simpa using hj), h.chans⟩
 ·have e : j ≠ 0 := fun e => by subst e; rw [List.getElem?_set_self (by rw [h.len]; exact hlt)] at hj; cases hj
  rw [hls j e] at hj
  obtain ⟨q1, q2, q3, q4⟩ := h.priv j z hj
  exact ⟨by rw [hset j e]; exact q1, q2, q3.trans (Off.at _ _ _), q4⟩
 ·rw [hls j h0] at hj; exact h.kidp j z h0 hj
 ·rw [hls j h0] at hj
  rw [hset j h0] at hg
  exact h.rest j g h0 hj hg
 ·refine ⟨g₂, n, by rw [Array.getElem?_setIfInBounds_self_of_lt hlt], rfl, hk, fun m hm hD u' ho => hK m hm u' ho hD, fun i hi => ?_⟩
  rw [hls i hi.ne0]
  have hil : i < gs.size := by have := hi.2.1; have := h.size; omega
  obtain ⟨o, ho⟩ := h.some_of_lt hil
  cases o with
  | some y => exact ⟨y, ho⟩
  | none => exact (hno i gs[i] hi ho (aG hil)).elim
theorem Inv.parkKid (h : Inv P φ Fin n k D l gs u t q H) {i : Nat} {x y : X} (h0 : i ≠ 0) (hl : l[i]? = some (some x)) (hm : l[0]? = some (some y)) (d : Nat) {g₂ : Goroutine} {m : Nat} (hq : QuitsD P m 0 (Go.Conc.served g₂ undef)) :
  Inv P φ Fin n k D (l.set i none) (gs.setIfInBounds i (parked g₂ (φ.send (i - φ.n0)) .send)) (u.at d) t q H := by
 have hlt := h.lt hl
 have hset : ∀ j, j ≠ i -> (gs.setIfInBounds i (parked g₂ (φ.send (i - φ.n0)) .send))[j]? = gs[j]? := fun j hj => Array.getElem?_setIfInBounds_ne (Ne.symm hj)
 have hls : ∀ j, j ≠ i -> (l.set i none)[j]? = l[j]? := fun j hj => List.getElem?_set_ne (Ne.symm hj)
 refine ⟨h.cnt, h.kle, h.dnd, h.dlt, h.dpos, by simpa using h.len, by simpa using h.size, fun j z hj => ?_, fun j z hj0 hj => ?_, fun j g hj0 hj hg => ?_, fun hj => ?_, h.tr, h.apt, h.low, h.base, h.ext.at d, fun j hj => h.above j (by simpa using hj), h.chans⟩
 ·have e : j ≠ i := fun e => by subst e; rw [List.getElem?_set_self (by rw [h.len]; exact hlt)] at hj; cases hj
  rw [hls j e] at hj
  obtain ⟨q1, q2, q3, q4⟩ := h.priv j z hj
  exact ⟨by rw [hset j e]; exact q1, q2, q3.trans (Off.at _ _ _), q4⟩
 ·have e : j ≠ i := fun e => by subst e; rw [List.getElem?_set_self (by rw [h.len]; exact hlt)] at hj; cases hj
  rw [hls j e] at hj; exact h.kidp j z hj0 hj
 ·by_cases e : j = i
  ·subst e
   rw [Array.getElem?_setIfInBounds_self_of_lt hlt, oI] at hg
   exact .inl ⟨h.kidp j x h0 hl, g₂, m, hg.symm, hq⟩
  ·rw [hls j e] at hj
   rw [hset j e] at hg
   exact h.rest j g hj0 hj hg
 ·rw [hls 0 (Ne.symm h0), hm] at hj; cases hj
theorem setChan_get (u : World) (c cap : Nat) (buf : Array Value) (cl : Bool) (s r : Nat) (tm : Bool) (b : Nat) (hb : b ≠ c) : (u.setChan c cap buf cl s r tm).heap[b]? = u.heap[b]? := by
 show (u.heap.setIfInBounds c _)[b]? = _
 rw [Array.getElem?_setIfInBounds_ne (Ne.symm hb)]
theorem off_setChan {Hd : Hold} {u : World} {c : Nat} (hc : ∀ b, Hd.mine b \/ Hd.sh b -> b ≠ c) (d cap : Nat) (buf : Array Value) (cl : Bool) (s r : Nat) (tm : Bool) : Off Hd u ((u.at d).setChan c cap buf cl s r tm) := by
 refine ⟨?_, fun b _ hb => setChan_get _ _ _ _ _ _ _ _ _ (hc b hb), rfl, rfl, rfl⟩
 show _ <= (u.heap.setIfInBounds c _).size
 simp
theorem Inv.hand (h : Inv P φ Fin (n + 1) k D l gs u t q H) {i : Nat} (hi : Kid φ k D i) (hk : k = φ.Hn) (d s : Nat) (hch : u.heap[φ.chan (i - φ.n0)]? = some (.chan 0 #[] false s s false)) {gM gK : Goroutine} {m : Nat}
  {gs' : Array Goroutine} (hsz : gs'.size = gs.size) (h0 : gs'[0]? = some gM) (hi' : gs'[i]? = some gK) (hoth : ∀ j, j ≠ 0 -> j ≠ i -> gs'[j]? = gs[j]?) (hM : gM.status = .running) (hK : QuitsD P m 0 gK) {o1 o2 o3 o4 : MemOp}
  (h1 : o1.g = i /\ o1.act = .send (φ.chan (i - φ.n0)) s) (h2 : o2.g = 0 /\ o2.act = .recv (φ.chan (i - φ.n0)) s 0) (h3 : o3.g = i /\ o3.act = .sendDone (φ.chan (i - φ.n0)) s) (h4 : o4.g = 0 /\ o4.act = .recvDone (φ.chan (i - φ.n0)) s) :
  Inv P φ Fin n k ((i - φ.n0) :: D) ((l.set i none).set 0 (some (H 0, gM, (u.at d).setChan (φ.chan (i - φ.n0)) 0 #[] false (s + 1) (s + 1) false))) gs' ((u.at d).setChan (φ.chan (i - φ.n0)) 0 #[] false (s + 1) (s + 1) false) (t ++ #[o1, o2, o3, o4]) (upd q i m) H := by
 have hi0 := hi.ne0
 have hilt : i < gs.size := by have := hi.2.1; have := h.size; omega
 have hchan : φ.chan (i - φ.n0) = φ.chA \/ φ.chan (i - φ.n0) = φ.chB := by unfold Ph.chan; split <;> simp
 have hlowc : ∀ j, Ac (Kid φ k D) j -> ∀ b, (H j).mine b \/ (H j).sh b -> b ≠ φ.chan (i - φ.n0) := fun j hj b hb => by
  obtain ⟨_, q1, q2⟩ := h.low j b hj hb
  rcases hchan with e | e <;> rw [e] <;> assumption
 have hoff : ∀ j, Ac (Kid φ k D) j -> Off (H j) u ((u.at d).setChan (φ.chan (i - φ.n0)) 0 #[] false (s + 1) (s + 1) false) := fun j hj => off_setChan (hlowc j hj) d 0 #[] false (s + 1) (s + 1) false
 have hsize : ((u.at d).setChan (φ.chan (i - φ.n0)) 0 #[] false (s + 1) (s + 1) false).heap.size = u.heap.size := by
  show (u.heap.setIfInBounds _ _).size = _
  simp
 have hkid : ∀ c, Kid φ k ((i - φ.n0) :: D) c ↔ Kid φ k D c /\ c ≠ i := fun c => by
  have q1 := hi.1
  unfold Kid
  simp only [List.mem_cons, not_or]
  constructor
  ·rintro ⟨a, b, c1, c2⟩
   exact ⟨⟨a, b, c2⟩, fun e => c1 (by rw [e])⟩
  ·rintro ⟨⟨a, b, c2⟩, c1⟩
   exact ⟨a, b, by omega, c2⟩
 have hsub : ∀ j, Ac (Kid φ k ((i - φ.n0) :: D)) j -> Ac (Kid φ k D) j := fun j hj => hj.imp id fun x => ((hkid j).1 x).1
 have hpl : ∀ op ∈ #[o1, o2, o3, o4], op.act ≠ .mark .disable /\ op.act ≠ .mark .enable := fun op hop => by
  have : op = o1 \/ op = o2 \/ op = o3 \/ op = o4 := by simpa using hop
  rcases this with rfl | rfl | rfl | rfl
  ·rw [h1.2]; exact ⟨by simp, by simp⟩
  ·rw [h2.2]; exact ⟨by simp, by simp⟩
  ·rw [h3.2]; exact ⟨by simp, by simp⟩
  ·rw [h4.2]; exact ⟨by simp, by simp⟩
 have hl0 : ((l.set i none).set 0 (some (H 0, gM, (u.at d).setChan (φ.chan (i - φ.n0)) 0 #[] false (s + 1) (s + 1) false)))[0]? = some (some (H 0, gM, (u.at d).setChan (φ.chan (i - φ.n0)) 0 #[] false (s + 1) (s + 1) false)) :=
  List.getElem?_set_self (by rw [List.length_set, h.len]; exact h.pos)
 have hli : ((l.set i none).set 0 (some (H 0, gM, (u.at d).setChan (φ.chan (i - φ.n0)) 0 #[] false (s + 1) (s + 1) false)))[i]? = some none := by
  rw [List.getElem?_set_ne (Ne.symm hi0), List.getElem?_set_self (by rw [h.len]; exact hilt)]
 have hlj : ∀ j, j ≠ 0 -> j ≠ i -> ((l.set i none).set 0 (some (H 0, gM, (u.at d).setChan (φ.chan (i - φ.n0)) 0 #[] false (s + 1) (s + 1) false)))[j]? = l[j]? := fun j a b => by
  rw [List.getElem?_set_ne (Ne.symm a), List.getElem?_set_ne (Ne.symm b)]
 refine ⟨by have := h.cnt; simp; omega, h.kle, List.nodup_cons.2 ⟨hi.2.2, h.dnd⟩, fun x hx => ?_, fun hlt => absurd hk (by omega), by simp [h.len, hsz], by rw [hsz]; exact h.size, fun j z hj => ?_, fun j z hj0 hj => ?_, fun j g hj0 hj hg => ?_, fun hj => ?_, ?_, ⟨fun a b c ha hb => h.apt.mm a b c (hsub a ha) (hsub b hb), fun a b c ha hb => h.apt.ms a b c (hsub a ha) (hsub b hb)⟩, fun j b hj hb => ?_, fun j b hj => h.base j b (hsub j hj), ?_, fun j hj => ?_, ?_⟩
 ·rcases List.mem_cons.1 hx with rfl | hx
  ·have q1 := hi.1; have q2 := hi.2.1; omega
  ·exact h.dlt x hx
 ·by_cases e0 : j = 0
  ·subst e0
   rw [hl0, oI, oI] at hj
   subst hj
   exact ⟨h0, rfl, Off.refl _ _, hM⟩
  ·by_cases e : j = i
   ·subst e; rw [hli] at hj; cases hj
   ·rw [hlj j e0 e] at hj
    obtain ⟨q1, q2, q3, q4⟩ := h.priv j z hj
    exact ⟨by rw [hoth j e0 e]; exact q1, q2, q3.trans (hoff j (h.ac hj)), q4⟩
 ·by_cases e : j = i
  ·subst e; rw [hli] at hj; cases hj
  ·rw [hlj j hj0 e] at hj
   exact (hkid j).2 ⟨h.kidp j z hj0 hj, e⟩
 ·by_cases e : j = i
  ·subst e
   rw [hi', oI] at hg
   subst hg
   refine .inr ⟨fun x => ((hkid j).1 x).2 rfl, ?_⟩
   rw [upd_same, Deaf_plain t _ j hpl, h.tr.hears j (.inr hi)]
   exact hK
  ·rw [hlj j hj0 e] at hj
   rw [hoth j hj0 e] at hg
   rw [Deaf_plain t _ j hpl, upd_ne q _ e]
   rcases h.rest j g hj0 hj hg with ⟨p1, p2⟩ | ⟨p1, p2⟩
   ·exact .inl ⟨(hkid j).2 ⟨p1, e⟩, p2⟩
   ·exact .inr ⟨fun x => p1 ((hkid j).1 x).1, p2⟩
 ·rw [hl0] at hj; cases hj
 ·rw [hsize]
  exact h.tr.hand hi h1 h2 h3 h4 (aS.1 hch).1 hkid
 ·rw [hsize]
  exact h.low j b (hsub j hj) hb
 ·refine ⟨by rw [hsize]; exact h.ext.size, fun b hb => ?_, h.ext.same⟩
  rw [setChan_get _ _ _ _ _ _ _ _ _ (by have := φ.lowA; have := φ.lowB; rcases hchan with e | e <;> omega)]
  exact h.ext.keep b hb
 ·rw [Deaf_plain t _ j hpl]
  exact h.above j (by rw [<- hsz]; exact hj)
 ·obtain ⟨s1, s2, c1, c2⟩ := h.chans
  have l1 := (aS.1 c1).1
  have l2 := (aS.1 c2).1
  have hself : ∀ c, c < u.heap.size -> ((u.at d).setChan c 0 #[] false (s + 1) (s + 1) false).heap[c]? = some (.chan 0 #[] false (s + 1) (s + 1) false) := fun c hc => by
   show (u.heap.setIfInBounds c _)[c]? = _
   rw [Array.getElem?_setIfInBounds_self_of_lt hc]
  rcases hchan with e | e
  ·rw [e]
   exact ⟨s + 1, s2, hself _ l1, by rw [setChan_get _ _ _ _ _ _ _ _ _ (Ne.symm φ.ne)]; exact c2⟩
  ·rw [e]
   exact ⟨s1, s + 1, by rw [setChan_get _ _ _ _ _ _ _ _ _ φ.ne]; exact c1, hself _ l2⟩
end
section
variable {P : Program} {φ : Ph} {Fin : Hold -> Goroutine -> World -> Prop} {n k : Nat} {D : List Nat} {l : List (Option X)} {gs : Array Goroutine} {u : World} {t : Trace} {q : Nat -> Nat} {H : Nat -> Hold}
def cnt : List (Option X) -> Nat
 | [] => 0
 | some _ :: l => cnt l + 1
 | none :: l => cnt l
theorem cnt_set : ∀ {l : List (Option X)} {i : Nat} {x y : X}, l[i]? = some (some x) -> cnt (l.set i (some y)) = cnt l
 | [], i, _, _, h => by simp at h
 | o :: l, 0, x, y, h => by
  simp only [List.getElem?_cons_zero, oI] at h
  subst h; rfl
 | o :: l, i + 1, x, y, h => by
  have := cnt_set (l := l) (i := i) (x := x) (y := y) (by simpa using h)
  cases o <;> simp only [List.set_cons_succ, cnt, this]
theorem cnt_out : ∀ {l : List (Option X)} {i : Nat} {x : X}, l[i]? = some (some x) -> cnt (l.set i none) < cnt l
 | [], i, _, h => by simp at h
 | o :: l, 0, x, h => by
  simp only [List.getElem?_cons_zero, oI] at h
  subst h; simp [cnt]
 | o :: l, i + 1, x, h => by
  have := cnt_out (l := l) (i := i) (x := x) (by simpa using h)
  cases o <;> simp only [List.set_cons_succ, cnt] <;> omega
variable (P φ Fin) in
def Done (gs : Array Goroutine) (u : World) (sl : Option (Nat × Nat)) (t : Trace) : Prop :=
 ∃ N gs' u' sl' t' q' g H, runNT P N (crowd gs u sl) t = (.next (crowd gs' u' sl'), t') /\ gs'.size = φ.n0 + φ.Hn /\ gs'[0]? = some g /\ g.status = .running /\ Fin H g u' /\ Leavers P t' gs' q' /\ Past (fun _ => False) u'.heap.size t' /\ Ext φ.u0 u'
theorem Done.step {gs' : Array Goroutine} {u' : World} {sl sl' : Option (Nat × Nat)} {ops : Trace} (hs : stepT P (crowd gs u sl) = (.next (crowd gs' u' sl'), ops)) (h : Done P φ Fin gs' u' sl' (t ++ ops)) : Done P φ Fin gs u sl t := by
 obtain ⟨N, gs2, u2, sl2, t2, q2, g2, H2, h1, h2⟩ := h
 exact ⟨N + 1, gs2, u2, sl2, t2, q2, g2, H2, by simp only [runNT, hs]; exact h1, h2⟩
variable (P φ Fin) in
def PL (n k : Nat) (D : List Nat) (l : List (Option X)) : Prop := ∀ i x, l[i]? = some (some x) -> RunM P (i == 0) (StopAll P φ Fin n k D i) x
theorem some_missing : ∀ (n : Nat) (l : List Nat), l.length < n -> ∃ x, x < n /\ x ∉ l
 | 0, l, h => by omega
 | n + 1, l, h => by
  by_cases hm : n ∈ l
  ·have hlen : (l.erase n).length = l.length - 1 := List.length_erase_of_mem hm
   have hpos : 0 < l.length := List.length_pos_of_mem hm
   obtain ⟨x, hx, hn⟩ := some_missing n (l.erase n) (by omega)
   exact ⟨x, by omega, fun hxl => hn ((List.mem_erase_of_ne (by omega)).2 hxl)⟩
  ·exact ⟨n, by omega, hm⟩
theorem Inv.none_left (h : Inv P φ Fin 0 k D l gs u t q H) : k = φ.Hn /\ ∀ c, ¬ Kid φ k D c := by
 have h1 := h.cnt
 have h2 := h.kle
 obtain ⟨h3, h4⟩ := all_below k D h.dnd h.dlt
 refine ⟨by omega, fun c hc => ?_⟩
 have q1 := hc.1
 have q2 := hc.2.1
 exact hc.2.2 (h4 (by omega) (c - φ.n0) (by omega))
theorem Inv.awake (h : Inv P φ Fin n k D l gs u t q H) : ∀ g ∈ gs, awake g := by
 intro g hg
 obtain ⟨i, hi, rfl⟩ := Array.mem_iff_getElem.1 hg
 have hgi : gs[i]? = some gs[i] := aG hi
 obtain ⟨o, ho⟩ := h.some_of_lt hi
 cases o with
 | some y =>
  obtain ⟨h1, _, _, h4⟩ := h.priv i y ho
  rw [hgi, oI] at h1
  rw [h1]; exact awake_of (.inl h4)
 | none =>
  by_cases e : i = 0
  ·subst e
   obtain ⟨g₂, _, h1, _⟩ := h.main ho
   rw [hgi, oI] at h1
   rw [h1]; exact awake_of (.inr (.inl rfl))
  ·rcases h.rest i _ e ho hgi with ⟨_, g₂, _, e2, _⟩ | ⟨_, hq⟩
   ·rw [e2]; exact awake_of (.inr (.inl rfl))
   ·exact awake_of (hq.status.elim .inl fun x => .inr (.inr x))
theorem Inv.somebody (h : Inv P φ Fin n k D l gs u t q H) : ∃ (i : Nat) (g : Goroutine), gs[i]? = some g /\ g.status = .running := by
 obtain ⟨o, ho⟩ := h.some_of_lt h.pos
 cases o with
 | some y => exact ⟨0, y.2.1, (h.priv 0 y ho).1, (h.priv 0 y ho).2.2.2⟩
 | none =>
  obtain ⟨_, n', _, h2, h3, _, h5⟩ := h.main ho
  obtain ⟨m, hm, hmD⟩ := some_missing φ.Hn D (by have := h.cnt; omega)
  obtain ⟨x, hx⟩ := h5 (φ.n0 + m) ⟨by omega, by omega, by rw [Nat.add_sub_cancel_left]; exact hmD⟩
  exact ⟨_, x.2.1, (h.priv _ x hx).1, (h.priv _ x hx).2.2.2⟩
theorem Inv.offers (h : Inv P φ Fin n k D l gs u t q H) {j c : Nat} {g : Goroutine} (hj : gs[j]? = some g) (ho : offersAt g c true ≠ []) : Kid φ k D j /\ l[j]? = some none /\ φ.chan (j - φ.n0) = c /\ offersAt g c true = [0] /\ ∃ g₂ m, g = parked g₂ (φ.send (j - φ.n0)) .send /\ QuitsD P m 0 (Go.Conc.served g₂ undef) := by
 obtain ⟨o, hl⟩ := h.some_of_lt ((aS.1 hj).1)
 cases o with
 | some y =>
  obtain ⟨h1, _, _, h4⟩ := h.priv j y hl
  rw [hj, oI] at h1
  exact absurd (offersAt_of_not_blocked (by rw [h1, h4]; simp) c true) ho
 | none =>
  by_cases e : j = 0
  ·subst e
   obtain ⟨g₂, _, h1, _⟩ := h.main hl
   rw [hj, oI] at h1
   subst h1
   refine absurd (offersAt_parked_sends (fun cc hcc => ?_) c) ho
   simp only [Ph.cases, List.mem_toArray, List.mem_cons, List.not_mem_nil, or_false] at hcc
   rcases hcc with rfl | rfl <;> rfl
  ·rcases h.rest j g e hl hj with ⟨h1, g₂, m, rfl, h2⟩ | ⟨_, hq⟩
   ·have := offersAt_parked_send g₂ (φ.chan (j - φ.n0)) (φ.val (j - φ.n0)) (.tuple #[]) .send c
    refine ⟨h1, hl, ?_, ?_, g₂, m, rfl, h2⟩
    ·by_cases e2 : φ.chan (j - φ.n0) = c
     ·exact e2
     ·rw [if_neg e2] at this
      exact absurd this ho
    ·by_cases e2 : φ.chan (j - φ.n0) = c
     ·rw [if_pos e2] at this; exact this
     ·rw [if_neg e2] at this; exact absurd this ho
   ·exact absurd (offersAt_of_not_blocked (by rcases hq.status with x | x <;> rw [x] <;> simp) c true) ho
theorem Inv.offersRecv (h : Inv P φ Fin n k D l gs u t q H) {j c : Nat} {g : Goroutine} (hj : gs[j]? = some g) (hj0 : j ≠ 0) : offersAt g c false = [] := by
 obtain ⟨o, hl⟩ := h.some_of_lt ((aS.1 hj).1)
 cases o with
 | some y =>
  obtain ⟨h1, _, _, h4⟩ := h.priv j y hl
  rw [hj, oI] at h1
  exact offersAt_of_not_blocked (by rw [h1, h4]; simp) c false
 | none =>
  rcases h.rest j g hj0 hl hj with ⟨h1, g₂, m, rfl, h2⟩ | ⟨_, hq⟩
  ·exact offersAt_parked_send' g₂ (φ.chan (j - φ.n0)) (φ.val (j - φ.n0)) (.tuple #[]) .send c
  ·exact offersAt_of_not_blocked (by rcases hq.status with x | x <;> rw [x] <;> simp) c false
theorem stopAll_kid {i : Nat} (hi : i ≠ 0) (n k : Nat) (D : List Nat) : StopAll P φ Fin n k D i = AtSend P φ (i - φ.n0) := by unfold StopAll; rw [if_neg hi]
theorem stopAll_main (n k : Nat) (D : List Nat) : StopAll P φ Fin n k D 0 = StopMain P φ Fin n k D := by unfold StopAll; rw [if_pos rfl]
def Ph.ix (φ : Ph) (h : Nat) : Nat := if φ.isA h then 0 else 1
theorem Ph.ix_get (φ : Ph) (h : Nat) : φ.cases[φ.ix h]? = some (rcase (φ.chan h) φ.z0) := by
 unfold Ph.ix Ph.chan Ph.cases
 cases φ.isA h <;> rfl
theorem Ph.ix_cast (φ : Ph) (h : Nat) : ((φ.ix h : Nat) : Int) = if φ.isA h then 0 else 1 := by
 unfold Ph.ix
 cases φ.isA h <;> rfl
theorem Ph.ix_of (φ : Ph) {h k : Nat} {z : Value} (hk : φ.cases[k]? = some (rcase (φ.chan h) z)) : k = φ.ix h := by
 have hn := φ.ne
 have hch : ∀ c z, some (rcase c φ.z0) = some (rcase (φ.chan h) z) -> c = φ.chan h := fun c z e => by
  have := congrArg CommCase.chan (Option.some.inj e)
  simp [rcase] at this
  exact this
 unfold Ph.cases at hk
 match k, hk with
 | 0, hk =>
  have e := hch φ.chA z hk
  unfold Ph.chan at e
  unfold Ph.ix
  cases hA : φ.isA h with
  | true => rfl
  | false => rw [hA] at e; exact absurd e hn
 | 1, hk =>
  have e := hch φ.chB z hk
  unfold Ph.chan at e
  unfold Ph.ix
  cases hA : φ.isA h with
  | true => rw [hA] at e; exact absurd e (Ne.symm hn)
  | false => rfl
 | k + 2, hk => simp at hk
theorem Ph.ix_other (φ : Ph) (h m : Nat) (cc : CommCase) (hm : m ≠ φ.ix h) (hc : φ.cases[m]? = some cc) : cc.chan ≠ .chan (some (φ.chan h)) := by
 have hn := φ.ne
 unfold Ph.ix at hm
 unfold Ph.cases at hc
 unfold Ph.chan
 match m, hc with
 | 0, hc =>
  simp only [List.getElem?_toArray, List.getElem?_cons_zero, oI] at hc
  subst hc
  cases hA : φ.isA h with
  | true => rw [hA] at hm; exact absurd rfl hm
  | false => simp [rcase, hn]
 | 1, hc =>
  simp only [List.getElem?_toArray, List.getElem?_cons_succ, List.getElem?_cons_zero, oI] at hc
  subst hc
  cases hA : φ.isA h with
  | true => simp [rcase, Ne.symm hn]
  | false => rw [hA] at hm; exact absurd rfl hm
 | m + 2, hc => simp at hc
theorem Ph.cases_open (φ : Ph) {u : World} (hc : ∃ s s', u.heap[φ.chA]? = some (.chan 0 #[] false s s false) /\ u.heap[φ.chB]? = some (.chan 0 #[] false s' s' false)) : ∀ cc ∈ φ.cases, ∃ c z s r, cc = rcase c z /\ u.heap[c]? = some (.chan 0 #[] false s r false) := by
 intro cc hcc
 obtain ⟨s, s', h1, h2⟩ := hc
 simp only [Ph.cases, List.mem_toArray, List.mem_cons, List.not_mem_nil, or_false] at hcc
 rcases hcc with rfl | rfl
 ·exact ⟨_, _, _, _, rfl, h1⟩
 ·exact ⟨_, _, _, _, rfl, h2⟩
theorem ofEvents_nil (g : Nat) (fn : FuncId) (pos : String) : MemOp.ofEvents g fn pos #[] = #[] := rfl
theorem PL.hand {i m : Nat} {x : X} (hT : PL P φ Fin (n + 1) k D l) (hx : RunM P true (StopMain P φ Fin n k (m :: D)) x) : PL P φ Fin n k (m :: D) ((l.set i none).set 0 (some x)) := by
 intro j y hj
 by_cases e0 : j = 0
 ·subst e0
  rw [List.getElem?_set] at hj
  simp only [if_true] at hj
  split at hj
  ·simp only [oI] at hj
   subst hj
   rw [stopAll_main]; exact hx
  ·cases hj
 ·rw [List.getElem?_set_ne (Ne.symm e0)] at hj
  by_cases e : i = j
  ·subst e
   rw [List.getElem?_set] at hj
   simp only [if_true] at hj
   split at hj <;> cases hj
  ·rw [List.getElem?_set_ne e] at hj
   have := hT j y hj
   rw [stopAll_kid e0] at this ⊢
   exact this
theorem phase_core (n : Nat) (IH : ∀ n', n = n' + 1 -> ∀ k D l gs u sl t q H, Inv P φ Fin n' k D l gs u t q H -> PL P φ Fin n' k D l -> Done P φ Fin gs u sl t) :
  ∀ k D c l, cnt l = c -> ∀ gs u sl t q H, Inv P φ Fin n k D l gs u t q H -> PL P φ Fin n k D l -> Done P φ Fin gs u sl t := by
 intro k D c
 induction c using Nat.strongRecOn with
 | _ c IHc =>
 intro l hc gs u sl t q H hI hT
 refine pool_ind l.length (trees_runM P (fun i => i == 0) (StopAll P φ Fin n k D)) (fun l => cnt l = c -> ∀ gs u sl t q H, Inv P φ Fin n k D l gs u t q H -> Done P φ Fin gs u sl t) ?_ l rfl hT hc gs u sl t q H hI
 clear hI hT hc gs u sl t q H l
 intro l hN hc gs u sl t q H hI
 have hT : PL P φ Fin n k D l := fun i x hx => (hN i x hx).1
 generalize hS : sumTo gs.size q = S
 induction S using Nat.strongRecOn generalizing gs u sl t q with
 | _ S IHS =>
 by_cases hA : n = 0 /\ ∃ x, l[0]? = some (some x) /\ (∀ u', Off x.1 x.2.2 u' -> StopMain P φ Fin n k D x.1 x.2.1 u')
 ·obtain ⟨rfl, x, hx, hs⟩ := hA
  obtain ⟨hk, hnk⟩ := hI.none_left
  obtain ⟨p1, p2, p3, p4⟩ := hI.priv 0 x hx
  have hfin : Fin x.1 x.2.1 u := hs u (by rw [p2]; exact p3)
  refine ⟨0, gs, u, sl, t, q, x.2.1, x.1, rfl, by rw [hI.size, hk], p1, p4, hfin, ⟨fun i g hi hg => ?_, hI.above⟩, hI.tr.past fun c hc => (hnk c hc).elim, hI.ext⟩
  obtain ⟨o, ho⟩ := hI.some_of_lt ((aS.1 hg).1)
  cases o with
  | some y => exact (hnk i (hI.kidp i y (by omega) ho)).elim
  | none =>
   rcases hI.rest i g (by omega) ho hg with ⟨h1, _⟩ | ⟨_, h2⟩
   ·exact (hnk i h1).elim
   ·exact h2
 obtain ⟨i, g, d, sl', hi, hg, hst⟩ := crowd_pick (P := P) (w := u) (sl := sl) hI.awake hI.somebody
 obtain ⟨o, ho⟩ := hI.some_of_lt ((aS.1 hi).1)
 have hlt : i < gs.size := (aS.1 hi).1
 cases o with
 | none =>
  by_cases e : i = 0
  ·subst e
   obtain ⟨g₂, _, h1, _⟩ := hI.main ho
   rw [hi, oI] at h1
   subst h1; cases hg
  ·have hi0 : (i == 0) = false := by simpa using e
   rcases hI.rest i g e ho hi with ⟨_, g₂, _, e2, _⟩ | ⟨hk, hq⟩
   ·subst e2; cases hg
   ·cases hqi : q i with
    | zero => rw [hqi] at hq; rw [hq.1] at hg; cases hg
    | succ m =>
     rw [hqi] at hq
     rcases hq with ⟨hf, _⟩ | ⟨_, g', es, hm, hstp, hq'⟩
     ·rw [hf] at hg; cases hg
     have hrunT := runT_crowd_go (P := P) (sl := sl') (i := i) hi (by rw [hi0]; exact hstp (u.at d))
     rw [hI.woken (w := u.at d) hI.chans] at hrunT
     refine Done.step (hst.trans hrunT) ?_
     have hsum : sumTo gs.size (upd q i m) + (m + 1) = sumTo gs.size q + m := by
      have := sumTo_upd q m id hlt
      simpa [hqi] using this
     exact IHS (sumTo gs.size (upd q i m)) (by omega) _ _ _ _ _ (hI.slip e ho hk d g.frame.fn g.frame.place hm hq') (by simp)
 | some x =>
  obtain ⟨p1, p2, p3, p4⟩ := hI.priv i x ho
  rw [hi, oI] at p1
  subst p1
  obtain ⟨hTi, _, hnode⟩ := hN i x ho
  have hoff : Off x.1 x.2.2 (u.at d) := by rw [p2]; exact p3.trans (Off.at _ _ _)
  rcases hnode with hstop | hstep
  ·have hs := hstop (u.at d) hoff
   by_cases e : i = 0
   ·subst e
    rw [stopAll_main] at hs hstop
    cases n with
    | zero => exact absurd ⟨rfl, x, ho, hstop⟩ hA
    | succ n =>
     have hoff0 : ∀ u', Off (H 0) (u.at d) u' -> Off x.1 (u.at d) u' := fun u' ho => by rw [p2]; exact ho
     unfold StopMain at hs
     split at hs
     ·rename_i hk
      obtain ⟨g', child, hsp, hkid, hmain⟩ := hs
      have hrunT := runT_crowd_spawn (P := P) (sl := sl') (i := 0) hi (show stepG P (0 == 0) x.2.1 (u.at d) = _ from hsp)
      rw [ofEvents_nil] at hrunT
      refine Done.step (hst.trans hrunT) ?_
      have hrg : g'.status = .running := hmain.running
      have hrc : child.status = .running := hkid.running
      have hI' := hI.spawn hk d hrg hrc (o1 := { g := 0, fn := x.2.1.frame.fn, pos := x.2.1.frame.place, act := .go gs.size }) (o2 := { g := gs.size, fn := child.frame.fn, pos := x.2.1.frame.place, act := .start }) ⟨rfl, rfl⟩ ⟨rfl, rfl⟩
      refine IH n rfl (k + 1) D _ _ _ _ _ _ _ hI' fun j y hj => ?_
      have hlen : (l.set 0 (some (⟨fun _ => False, fun b => (H 0).mine b \/ (H 0).sh b⟩, g', u.at d))).length = gs.size := by simpa using hI.len
      rw [p2] at hmain hkid
      by_cases e1 : j < gs.size
      ·rw [List.getElem?_append_left (by omega)] at hj
       by_cases e0 : j = 0
       ·subst e0
        rw [List.getElem?_set_self (by rw [hI.len]; exact hI.pos), oI, oI] at hj
        subst hj
        rw [stopAll_main]; exact hmain
       ·rw [List.getElem?_set_ne (Ne.symm e0)] at hj
        have := hT j y hj
        rw [stopAll_kid e0] at this ⊢
        exact this
      ·rw [List.getElem?_append_right (by omega), hlen] at hj
       have hj0 : j - gs.size = 0 := by
        have := (lS.1 hj).1
        simpa using this
       rw [hj0] at hj
       simp only [List.getElem?_cons_zero, oI] at hj
       subst hj
       have hjs : j = φ.n0 + k := by have := hI.size; omega
       subst hjs
       have hne : φ.n0 + k ≠ 0 := by have := φ.pos; omega
       rw [stopAll_kid hne, Nat.add_sub_cancel_left]
       have e3 : ((φ.n0 + k) == 0) = false := by simpa using hne
       rw [e3]
       exact hkid
     ·rename_i hk
      have hkH : k = φ.Hn := by have := hI.kle; omega
      obtain ⟨g₂, hcm, hK⟩ := hs
      by_cases hany : ∃ j g, gs[j]? = some g /\ Kid φ k D j /\ l[j]? = some none
      ·obtain ⟨j, gj, hgj, hkj, hlj⟩ := hany
       have hpark := (hI.rest j gj hkj.ne0 hlj hgj).resolve_right fun z => z.1 hkj
       obtain ⟨_, gk, mk, e1, hqk⟩ := hpark
       have hofs : offersAt gj (φ.chan (j - φ.n0)) true = [0] := by
        rw [e1]
        exact (offersAt_parked_send gk _ _ _ .send _).trans (if_pos rfl)
       have hsome : ∃ cc ∈ φ.cases, ∃ c z, cc = rcase c z /\ partners (gs.setIfInBounds 0 ph) c true ≠ [] := by
        refine ⟨rcase (φ.chan (j - φ.n0)) φ.z0, Array.mem_of_getElem? (φ.ix_get (j - φ.n0)), _, _, rfl, fun e2 => ?_⟩
        have : (j, 0) ∈ partners (gs.setIfInBounds 0 ph) (φ.chan (j - φ.n0)) true := mem_partners.2 ⟨gj, by rw [Array.getElem?_setIfInBounds_ne (Ne.symm hkj.ne0)]; exact hgj, by rw [hofs]; simp⟩
        rw [e2] at this; cases this
       obtain ⟨ki, c, z, j2, kk, s, r, d2, hci, hpart, hcc, hrunT⟩ := crowd_sel_any (P := P) (sl := sl') (i := 0) hi (show stepG P (0 == 0) x.2.1 (u.at d) = _ from hcm) (φ.cases_open hI.chans) hsome
       obtain ⟨g2, hg2, hk2⟩ := mem_partners.1 hpart
       rcases getElem?_stand gs 0 j2 g2 hg2 with ⟨_, e2⟩ | ⟨hj20, hg2'⟩
       ·rw [e2, offersAt_ph] at hk2; cases hk2
       obtain ⟨hkid2, hl2, hch2, hof2, gk2, m2, rfl, hq2⟩ := hI.offers hg2' (by intro e3; rw [e3] at hk2; cases hk2)
       rw [hof2] at hk2
       have hkk : kk = 0 := by simpa using hk2
       subst hkk
       subst hch2
       have hkix := φ.ix_of hci
       obtain ⟨s0, hs0⟩ := send_open hI.chans (j2 - φ.n0)
       have hsr : s = s0 /\ r = s0 := by
        have hcc' : u.heap[φ.chan (j2 - φ.n0)]? = _ := hcc
        rw [hs0] at hcc'
        simp only [oI, Obj.chan.injEq, true_and, and_true] at hcc'
        exact ⟨hcc'.1.symm, hcc'.2.symm⟩
       obtain ⟨rfl, rfl⟩ := hsr
       have hfp : finishPartner P (gs.setIfInBounds 0 ph) j2 0 undef = (gs.setIfInBounds 0 ph).setIfInBounds j2 (Go.Conc.served gk2 undef) := by
        apply Array.ext_getElem?
        intro a
        unfold finishPartner
        rw [Array.getElem?_modify]
        by_cases ea : j2 = a
        ·subst ea
         rw [if_pos rfl, hg2, Array.getElem?_setIfInBounds_self_of_lt (aS.1 hg2).1]
         rfl
        ·rw [if_neg ea, Array.getElem?_setIfInBounds_ne ea]
       have hov : offeredValue (gs.setIfInBounds 0 ph) j2 0 = φ.val (j2 - φ.n0) := by
        unfold offeredValue
        rw [hg2]; rfl
       rw [hfp, hov, ofEvents_nil, Array.empty_append, hkix, φ.ix_cast] at hrunT
       refine Done.step (hst.trans hrunT) ?_
       have hsz0 : j2 < gs.size := (aS.1 hg2').1
       have hh : j2 - φ.n0 < φ.Hn := by have := hkid2.1; have := hkid2.2.1; omega
       have hnext := hK (j2 - φ.n0) hh ((u.at d2).setChan (φ.chan (j2 - φ.n0)) 0 #[] false (r + 1) (r + 1) false) (by
        rw [p2]
        refine off_setChan (u := u.at d) (fun b hb => ?_) d2 0 #[] false (r + 1) (r + 1) false
        obtain ⟨_, b1, b2⟩ := hI.low 0 b (.inl rfl) hb
        unfold Ph.chan; split <;> assumption) hkid2.2.2
       have hI' := hI.hand hkid2 hkH d2 r hs0 (gM := g₂.finishComm P φ.cases .select (if φ.isA (j2 - φ.n0) then 0 else 1) (φ.val (j2 - φ.n0)) true) (gK := Go.Conc.served gk2 undef) (m := m2)
        (gs' := ((gs.setIfInBounds 0 ph).setIfInBounds j2 (Go.Conc.served gk2 undef)).setIfInBounds 0 (g₂.finishComm P φ.cases .select (if φ.isA (j2 - φ.n0) then 0 else 1) (φ.val (j2 - φ.n0)) true))
        (by simp) (by rw [Array.getElem?_setIfInBounds_self_of_lt (by simpa using hI.pos)]) (by rw [Array.getElem?_setIfInBounds_ne (Ne.symm hj20), Array.getElem?_setIfInBounds_self_of_lt (by simpa using hsz0)])
        (fun a a0 ai => by rw [Array.getElem?_setIfInBounds_ne (Ne.symm a0), Array.getElem?_setIfInBounds_ne (Ne.symm ai), Array.getElem?_setIfInBounds_ne (Ne.symm a0)]) hnext.running hq2
        (o1 := { g := j2, fn := ((gs.setIfInBounds 0 ph).getD j2 default).frame.fn, pos := ((gs.setIfInBounds 0 ph).getD j2 default).frame.place, act := .send (φ.chan (j2 - φ.n0)) r }) (o2 := { g := 0, fn := g₂.frame.fn, pos := g₂.frame.place, act := .recv (φ.chan (j2 - φ.n0)) r 0 })
        (o3 := { g := j2, fn := ((gs.setIfInBounds 0 ph).getD j2 default).frame.fn, pos := ((gs.setIfInBounds 0 ph).getD j2 default).frame.place, act := .sendDone (φ.chan (j2 - φ.n0)) r }) (o4 := { g := 0, fn := g₂.frame.fn, pos := g₂.frame.place, act := .recvDone (φ.chan (j2 - φ.n0)) r }) ⟨rfl, rfl⟩ ⟨rfl, rfl⟩ ⟨rfl, rfl⟩ ⟨rfl, rfl⟩
       exact IH n rfl k _ _ _ _ _ _ _ _ hI' (PL.hand hT (by rw [p2] at hnext; exact hnext))
      ·have hno : ∀ i g, Kid φ k D i -> l[i]? = some none -> gs[i]? = some g -> False := fun i g a b c => hany ⟨i, g, c, a, b⟩
       have hnp : ∀ c, partners (gs.setIfInBounds 0 ph) c true = [] := fun c => partners_nil fun a b hab => by
        rcases getElem?_stand gs 0 a b hab with ⟨_, e2⟩ | ⟨_, hb⟩
        ·rw [e2, offersAt_ph]
        ·exact Classical.byContradiction fun hne => by
          obtain ⟨q1, q2, _⟩ := hI.offers hb hne
          exact hno a b q1 q2 hb
       have hrunT := crowd_waits (P := P) (sl := sl') (i := 0) hi (show stepG P (0 == 0) x.2.1 (u.at d) = _ from hcm) (fun cc hcc => by
        obtain ⟨c, z, s, r, rfl, h2⟩ := φ.cases_open (u := u.at d) hI.chans cc hcc
        exact ways_recv_none h2 (hnp c))
       rw [ofEvents_nil] at hrunT
       refine Done.step (hst.trans hrunT) ?_
       rw [Array.append_empty]
       refine IHc (cnt (l.set 0 none)) (hc ▸ cnt_out ho) (l.set 0 none) rfl _ _ _ _ _ _ (hI.parkMain ho hkH d (fun m hm u' hu hD => ?_) hno) fun j y hj => ?_
       ·have := hK m hm u' (hoff0 u' hu) hD
        rw [p2] at this; exact this
       ·have e0 : j ≠ 0 := fun e0 => by subst e0; rw [List.getElem?_set_self (by rw [hI.len]; exact hI.pos)] at hj; cases hj
        rw [List.getElem?_set_ne (Ne.symm e0)] at hj
        exact hT j y hj
   ·have hi0 : (i == 0) = false := by simpa using e
    have hkid := hI.kidp i x e ho
    rw [stopAll_kid e] at hs
    obtain ⟨g₂, m, hcm, hq⟩ := hs
    obtain ⟨s0, hs0⟩ := send_open hI.chans (i - φ.n0)
    obtain ⟨o0, ho0⟩ := hI.some_of_lt hI.pos
    have hstand : ∀ c a b, a ≠ 0 -> (gs.setIfInBounds i ph)[a]? = some b -> offersAt b c false = [] := fun c a b a0 hab => by
     rcases getElem?_stand gs i a b hab with ⟨_, e2⟩ | ⟨_, hb⟩
     ·rw [e2, offersAt_ph]
     ·exact hI.offersRecv hb a0
    cases o0 with
    | some y =>
     obtain ⟨y1, _, _, y4⟩ := hI.priv 0 y ho0
     have hrunT := crowd_waits (P := P) (sl := sl') (i := i) hi (by rw [hi0]; exact hcm) (fun cc hcc => by
      simp only [Ph.send, List.mem_toArray, List.mem_cons, List.not_mem_nil, or_false] at hcc
      subst hcc
      refine ways_send_none (w₁ := u.at d) hs0 (by simp) (partners_nil fun a b hab => ?_)
      by_cases a0 : a = 0
      ·subst a0
       rw [Array.getElem?_setIfInBounds_ne e, y1, oI] at hab
       subst hab
       exact offersAt_of_not_blocked (by rw [y4]; simp) _ _
      ·exact hstand _ a b a0 hab)
     rw [ofEvents_nil] at hrunT
     refine Done.step (hst.trans hrunT) ?_
     rw [Array.append_empty]
     refine IHc (cnt (l.set i none)) (hc ▸ cnt_out ho) (l.set i none) rfl _ _ _ _ _ _ (hI.parkKid e ho ho0 d hq) fun j y hj => ?_
     have ej : j ≠ i := fun e0 => by subst e0; rw [List.getElem?_set_self (by rw [hI.len]; exact hlt)] at hj; cases hj
     rw [List.getElem?_set_ne (Ne.symm ej)] at hj
     exact hT j y hj
    | none =>
     obtain ⟨gm, n', hgm, rfl, hkH, hnext, _⟩ := hI.main ho0
     have hh : i - φ.n0 < φ.Hn := by have := hkid.1; have := hkid.2.1; omega
     have hoff' : Off (H 0) u ((u.at d).setChan (φ.chan (i - φ.n0)) 0 #[] false (s0 + 1) (s0 + 1) false) := by
      refine off_setChan (fun b hb => ?_) d 0 #[] false (s0 + 1) (s0 + 1) false
      obtain ⟨_, b1, b2⟩ := hI.low 0 b (.inl rfl) hb
      unfold Ph.chan; split <;> assumption
     have hn := hnext (i - φ.n0) hh hkid.2.2 _ hoff'
     have hrunT := crowd_send_meets_sel (P := P) (sl := sl') (i := i) (j := 0) (k := φ.ix (i - φ.n0)) (gj := gm) (cs := φ.cases) (shj := .select) hi (by rw [hi0]; exact hcm) (show (u.at d).heap[φ.chan (i - φ.n0)]? = some (.chan 0 #[] false s0 s0 false) from hs0) (Ne.symm e) hgm (φ.ix_get _)
      (by
       rw [partners_one (j := 0) (g := parked gm φ.cases .select) (by rw [Array.getElem?_setIfInBounds_ne e]; exact hgm) fun a b a0 hab => hstand _ a b a0 hab, offersAt_parked_at (φ.ix_get _) fun a cc ha hcc => φ.ix_other _ a cc ha hcc]
       rfl)
     rw [ofEvents_nil, Array.empty_append, φ.ix_cast] at hrunT
     refine Done.step (hst.trans hrunT) ?_
     have hI' := hI.hand hkid hkH d s0 hs0 (gM := gm.finishComm P φ.cases .select (if φ.isA (i - φ.n0) then 0 else 1) (φ.val (i - φ.n0)) true) (gK := Go.Conc.served g₂ undef) (m := m)
      (gs' := (gs.setIfInBounds 0 (gm.finishComm P φ.cases .select (if φ.isA (i - φ.n0) then 0 else 1) (φ.val (i - φ.n0)) true)).setIfInBounds i (Go.Conc.served g₂ undef))
      (by simp) (by rw [Array.getElem?_setIfInBounds_ne e, Array.getElem?_setIfInBounds_self_of_lt hI.pos]) (by rw [Array.getElem?_setIfInBounds_self_of_lt (by simpa using hlt)])
      (fun a a0 ai => by rw [Array.getElem?_setIfInBounds_ne (Ne.symm ai), Array.getElem?_setIfInBounds_ne (Ne.symm a0)]) hn.running hq
      (o1 := { g := i, fn := g₂.frame.fn, pos := g₂.frame.place, act := .send (φ.chan (i - φ.n0)) s0 }) (o2 := { g := 0, fn := gm.frame.fn, pos := gm.frame.place, act := .recv (φ.chan (i - φ.n0)) s0 0 })
      (o3 := { g := i, fn := g₂.frame.fn, pos := g₂.frame.place, act := .sendDone (φ.chan (i - φ.n0)) s0 }) (o4 := { g := 0, fn := gm.frame.fn, pos := gm.frame.place, act := .recvDone (φ.chan (i - φ.n0)) s0 }) ⟨rfl, rfl⟩ ⟨rfl, rfl⟩ ⟨rfl, rfl⟩ ⟨rfl, rfl⟩
     exact IH n' rfl k _ _ _ _ _ _ _ _ hI' (PL.hand hT hn)
  ·obtain ⟨y, ⟨es, hgo, hdoes, hes⟩, hTy, hΦ⟩ := hstep (u.at d) hoff
   have hdoes' : Does (H i) y.1 (u.at d) y.2.2 := by rw [<- p2]; exact hdoes
   have hI' := hI.go ho d x.2.1.frame.fn x.2.1.frame.place hdoes' hes hTy.running
   have hrunT := runT_crowd_go (P := P) (sl := sl') (i := i) hi hgo
   rw [hI.woken hI'.chans] at hrunT
   exact Done.step (hst.trans hrunT) (hΦ ((cnt_set ho).trans hc) _ _ _ _ _ _ hI')
theorem phase : ∀ (n k : Nat) (D : List Nat) (l : List (Option X)) (gs : Array Goroutine) (u : World) (sl : Option (Nat × Nat)) (t : Trace) (q : Nat -> Nat) (H : Nat -> Hold), Inv P φ Fin n k D l gs u t q H -> PL P φ Fin n k D l -> Done P φ Fin gs u sl t := by
 intro n
 induction n with
 | zero => exact fun k D l => phase_core 0 (fun n' h => by cases h) k D _ l rfl
 | succ n ih => exact fun k D l => phase_core (n + 1) (fun n' h => by cases h; exact ih) k D _ l rfl
end
end Go.Tp
namespace Go.Tp
open Go.Conc Go.RowKit
theorem Does.still (H : Hold) (u : World) : Does H H u u :=
 ⟨Nat.le_refl _, fun _ _ _ => rfl, fun _ => ⟨.inl, fun h => h.elim id fun x => absurd x.2 (Nat.not_lt.2 x.1)⟩, rfl, rfl, rfl, rfl⟩
def Hold.more (H : Hold) (u u' : World) : Hold := ⟨fun b => H.mine b \/ (u.heap.size <= b /\ b < u'.heap.size), H.sh⟩
theorem Does.alloc (H : Hold) (u : World) (o : Obj) : Does H (H.more u (u.alloc o)) u (u.alloc o) :=
 ⟨by simp, fun _ hb _ => Below.heap_alloc u o _ hb, fun _ => Iff.rfl, rfl, rfl, rfl, rfl⟩
theorem setCell_heap_other (u : World) (a : Addr) (v : Value) {b : Nat} (h : b ≠ a.block) : (u.setCell a v).heap[b]? = u.heap[b]? := Below.heap_setCell u a v b h
theorem Does.set (H : Hold) (u : World) (a : Addr) (v : Value) (h : H.mine a.block) : Does H H u (u.setCell a v) := by
 refine ⟨by simp, fun b _ hm => setCell_heap_other u a v fun e => hm (e ▸ h), fun b => ⟨.inl, fun x => x.elim id fun y => ?_⟩, rfl, rfl, rfl, rfl⟩
 have := y.2
 simp only [World.size_setCell] at this
 exact absurd this (Nat.not_lt.2 y.1)
theorem Does.trans {H H' H'' : Hold} {u u' u'' : World} (h : Does H H' u u') (h' : Does H' H'' u' u'') : Does H H'' u u'' := by
 refine ⟨Nat.le_trans h.size h'.size, fun b hb hm => ?_, fun b => ?_, h'.sh.trans h.sh, h'.same.1.trans h.same.1, h'.same.2.1.trans h.same.2.1, h'.same.2.2.trans h.same.2.2⟩
 ·rw [h'.keep b (Nat.lt_of_lt_of_le hb h.size) fun hx => ((h.mine b).1 hx).elim hm fun y => absurd hb (Nat.not_lt.2 y.1), h.keep b hb hm]
 ·rw [h'.mine, h.mine]
  have := h.size; have := h'.size
  constructor
  ·rintro ((x | x) | x)
   ·exact .inl x
   ·exact .inr (by omega)
   ·exact .inr (by omega)
  ·rintro (x | x)
   ·exact .inl (.inl x)
   ·by_cases hb : b < u'.heap.size
    ·exact .inl (.inr ⟨x.1, hb⟩)
    ·exact .inr ⟨by omega, x.2⟩
section
variable {P : Program} {mn : Bool} {Stop : Hold -> Goroutine -> World -> Prop} {H : Hold} {u : World} {b : Frame} {a : Act} {k : List Item} {cs : List Frame} {ops : Array Oper}
theorem rm_go {fr fr' : Frame} (hg : ∀ u', stepG P mn (G fr cs) u' = .go (G fr' cs) u' #[]) (h : RunM P mn Stop (H, G fr' cs, u)) : RunM P mn Stop (H, G fr cs, u) :=
 RunM.step' rfl fun u' ho => ⟨(H, G fr' cs, u'), h.rely ho, #[], hg u', .still H u', by simp⟩
theorem rm_seq {x y : Code} (h : RunM P mn Stop (H, G (b.at a (.code x :: .code y :: k)) cs, u)) : RunM P mn Stop (H, G (b.at a (.code (.seq x y) :: k)) cs, u) :=
 rm_go (fun u' => by simp [G, stepG, stepG.exec, Frame.at]) h
theorem rm_skip (h : RunM P mn Stop (H, G (b.at a k) cs, u)) : RunM P mn Stop (H, G (b.at a (.code .skip :: k)) cs, u) := rm_go (fun u' => by simp [G, stepG, stepG.exec, Frame.at]) h
theorem rm_inBlock {i : Nat} (h : RunM P mn Stop (H, G (b.at a k) cs, u)) : RunM P mn Stop (H, G (b.at a (.inBlock i :: k)) cs, u) := rm_go (fun u' => by simp [G, stepG, stepG.exec, Frame.at]) h
theorem rm_block {i : Nat} {c : Code} (h : RunM P mn Stop (H, G (b.at a (.code c :: .inBlock i :: k)) cs, u)) : RunM P mn Stop (H, G (b.at a (.code (.block i c) :: k)) cs, u) := rm_go (fun u' => by simp [G, stepG, stepG.exec, Frame.at]) h
theorem rm_loop {c : Code} (h : RunM P mn Stop (H, G (b.at a (.code c :: .inLoop c :: k)) cs, u)) : RunM P mn Stop (H, G (b.at a (.code (.loop c) :: k)) cs, u) := rm_go (fun u' => by simp [G, stepG, stepG.exec, Frame.at]) h
theorem rm_inLoop {c : Code} (h : RunM P mn Stop (H, G (b.at a (.code c :: .inLoop c :: k)) cs, u)) : RunM P mn Stop (H, G (b.at a (.inLoop c :: k)) cs, u) := rm_go (fun u' => by simp [G, stepG, stepG.exec, Frame.at]) h
theorem rm_exit {i : Nat} {k' : List Item} (he : exitTo i k = some k') (h : RunM P mn Stop (H, G (b.at a k') cs, u)) : RunM P mn Stop (H, G (b.at a (.code (.exit i) :: k)) cs, u) := rm_go (fun u' => by simp [G, stepG, stepG.exec, Frame.at, he]) h
theorem rm_cond {c : Operand} {x y : Code} (t : Bool) (hc : a.eval c = .bool t) (h : RunM P mn Stop (H, G (b.at a (.code (if t then x else y) :: k)) cs, u)) : RunM P mn Stop (H, G (b.at a (.code (.cond c x y) :: k)) cs, u) :=
 rm_go (fun u' => by
  have e := Frame.eval_at' b a (.code (.cond c x y) :: k)
  simp only [Frame.at] at e
  simp [G, stepG, stepG.exec, Frame.at, e, hc]) h
theorem rm_region {i : Nat} (h : RunM P mn Stop (H, G (b.at a (.inRegion ops (List.range ops.size) :: k)) cs, u)) : RunM P mn Stop (H, G (b.at a (.code (.region i ops false) :: k)) cs, u) := rm_go (fun u' => by simp [G, stepG, stepG.exec, Frame.at]) h
theorem rm_regionEnd (h : RunM P mn Stop (H, G (b.at a k) cs, u)) : RunM P mn Stop (H, G (b.at a (.inRegion ops [] :: k)) cs, u) := rm_go (fun u' => by simp [G, stepG, stepG.exec, Frame.at]) h
theorem rm_op {i : Nat} {rest : List Nat} {o : Oper} (ho : ops[i]? = some o) (hw : Region.wanted o (yielded ops a.tmps) = true) (hk : b.kind ≠ .early)
  (h : ∀ u', Off H u u' -> ∃ v H1 u1, (execOp a.eval o).run P u' = .ok (.value v) u1 /\ Does H H1 u' u1 /\ (∀ e ∈ listed P b.fn a o u', EvO H1 e) /\ RunM P mn Stop (H1, G (b.at (a.put o.dst v) (.inRegion ops rest :: k)) cs, u1)) :
  RunM P mn Stop (H, G (b.at a (.inRegion ops (i :: rest) :: k)) cs, u) :=
 RunM.step' rfl fun u' ho' => by
  obtain ⟨v, H1, u1, hr, hd, he, hn⟩ := h u' ho'
  refine ⟨(H1, _, u1), hn, listed P b.fn a o u', ?_, hd, he⟩
  have hfin : (b.at a (.inRegion ops (i :: rest) :: k)).finish v = b.at (a.put o.dst v) (.inRegion ops rest :: k) := by rw [Frame.finish_at, ho]; rfl
  have hk' : (b.kind == CallKind.early) = false := by simpa using hk
  rw [stepG_oper ho hw, <- hfin]
  simp [stepG.apply, hr, G, Frame.at, hk', GStep.after, listed]
end
end Go.Tp
