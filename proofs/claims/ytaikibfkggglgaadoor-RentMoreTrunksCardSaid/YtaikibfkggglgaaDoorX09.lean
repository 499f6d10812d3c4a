/- A part of the proof of RentMoreTrunks; no conditions of its own. -/
import Derived.Test.YtaikibfkggglgaaDoorX08
import Derived.Conc.CrowdTrace
import Derived.Conc.CrowdSel
set_option maxRecDepth 100000
open Nat renaming le_refl → nR
open List renaming getElem?_eq_getElem → lG
open Array renaming getElem?_eq_some_iff → aS
open Array renaming getElem?_eq_getElem → aG
open Option.some renaming injEq → oI
open List renaming getD_eq_getElem?_getD → lD
namespace Go.Tp
open Go.Conc Go.ConcN
def InL (p : Nat -> Prop) : Loc -> Prop
 | .cell a => p a.block
 | .obj r => p r
 | _ => False
theorem InL.mono {p q : Nat -> Prop} (h : ∀ b, p b -> q b) : ∀ {l : Loc}, InL p l -> InL q l
 | .cell _, x => h _ x
 | .obj _, x => h _ x
 | .output, x => x.elim
 | .goroutines, x => x.elim
 | .mark _, x => x.elim
theorem InL.no {p q : Nat -> Prop} (h : ∀ b, p b -> q b -> False) : ∀ {l : Loc}, InL p l -> InL q l -> False
 | .cell _, x, y => h _ x y
 | .obj _, x, y => h _ x y
 | .output, x, _ => x
 | .goroutines, x, _ => x
 | .mark _, x, _ => x
theorem InL.low {B : Nat} : ∀ {l : Loc}, l.low B -> ∀ {p : Nat -> Prop}, InL p l -> InL (fun b => p b /\ b < B) l
 | .cell _, h, _, x => ⟨x, h⟩
 | .obj _, h, _, x => ⟨x, h⟩
 | .output, _, _, x => x.elim
 | .goroutines, _, _, x => x.elim
 | .mark _, _, _, x => x.elim
def Ac (act : Nat -> Prop) (x : Nat) : Prop := x = 0 \/ act x
structure Apt (act : Nat -> Prop) (H : Nat -> Hold) : Prop where
 mm : ∀ x y b, Ac act x -> Ac act y -> x ≠ y -> (H x).mine b -> ¬ (H y).mine b
 ms : ∀ x y b, Ac act x -> Ac act y -> (H x).mine b -> ¬ (H y).sh b
structure Tr (B : Nat) (t : Trace) (act : Nat -> Prop) (H : Nat -> Hold) : Prop where
 clean : ∀ said, ¬ Race said t
 hears : ∀ x, Ac act x -> Deaf t x = 0
 seen : ∀ op ∈ t, op.act.low B
 all : ∀ i a, touchAt t i = some a -> a.loc.isMemory = true -> ∃ x, Ac act x /\ Knows t x i /\ (x ≠ 0 -> InL (H x).mine a.loc \/ (InL (H x).sh a.loc /\ a.write = false))
 own : ∀ c, act c -> c ≠ 0 -> ∀ i a, touchAt t i = some a -> InL (H c).mine a.loc -> Knows t c i
 wr : ∀ c, act c -> c ≠ 0 -> ∀ i a, touchAt t i = some a -> InL (H c).sh a.loc -> a.write = true -> Knows t c i
def OpO (B : Nat) (H : Hold) (op : MemOp) : Prop := op.act.low B /\ ∀ b, op.act.touch? = some b -> b.loc.isMemory = true -> InL H.mine b.loc \/ (InL H.sh b.loc /\ b.write = false)
section
variable {B : Nat} {t u : Trace} {act : Nat -> Prop} {H : Nat -> Hold}
theorem touchAt_low (h : ∀ op ∈ t, op.act.low B) {i : Nat} {a : Touch} (ha : touchAt t i = some a) : a.loc.low B := by
 obtain ⟨op, hop, hoa⟩ := touch_of ha
 have hl := h op (mem_of_getElem? hop)
 cases e : op.act with
 | access ev =>
  rw [e] at hl hoa
  simp only [MemAct.touch?, oI] at hoa
  subst hoa
  exact hl
 | mark m =>
  rw [e] at hl hoa
  cases m <;> simp only [MemAct.touch?] at hoa <;> first | (cases hoa; done) | (simp only [oI] at hoa; subst hoa; exact hl)
 | _ => rw [e] at hoa; cases hoa
theorem Tr.grow (h : Tr B t act H) {B' : Nat} (hB : B <= B') {H' : Nat -> Hold} (hm : ∀ x b, (H x).mine b -> (H' x).mine b) (hm' : ∀ x b, b < B -> (H' x).mine b -> (H x).mine b) (hs : ∀ x b, (H x).sh b -> (H' x).sh b) (hs' : ∀ x b, b < B -> (H' x).sh b -> (H x).sh b) : Tr B' t act H' := by
 refine ⟨h.clean, h.hears, fun op hop => MemAct.low_mono hB (h.seen op hop), fun i a ha hm0 => ?_, fun c hc h0 i a ha hl => ?_, fun c hc h0 i a ha hl hw => ?_⟩
 ·obtain ⟨x, hx, hk, hh⟩ := h.all i a ha hm0
  exact ⟨x, hx, hk, fun hx0 => (hh hx0).imp (InL.mono (hm x)) fun y => ⟨y.1.mono (hs x), y.2⟩⟩
 ·exact h.own c hc h0 i a ha ((InL.low (touchAt_low h.seen ha) hl).mono fun b hb => hm' c b hb.2 hb.1)
 ·exact h.wr c hc h0 i a ha ((InL.low (touchAt_low h.seen ha) hl).mono fun b hb => hs' c b hb.2 hb.1) hw
theorem Tr.app (h : Tr B t act H) (hA : Apt act H) {x : Nat} (hx : Ac act x) (hu : ∀ op ∈ u, op.g = x) (ho : ∀ op ∈ u, OpO B (H x) op) (hd : Deaf (t ++ u) x = 0) : Tr B (t ++ u) act H := by
 have hold : ∀ {i : Nat} {a : Touch}, touchAt (t ++ u) i = some a -> (touchAt t i = some a) \/ ∃ op ∈ u, op.act.touch? = some a /\ Knows (t ++ u) x i := by
  intro i a ha
  obtain ⟨z, hz, hza⟩ := touch_of ha
  rcases getElem?_append_cases hz with ⟨_, hz'⟩ | ⟨_, hzu⟩
  ·exact .inl (by rw [touchAt_of hz']; exact hza)
  ·have := knows_own hz
   rw [hu z hzu] at this
   exact .inr ⟨z, hzu, hza, this⟩
 have mem_of : ∀ {l : Loc} {p : Nat -> Prop}, InL p l -> l.isMemory = true := fun {l} {p} hl => by cases l <;> first | rfl | exact hl.elim
 refine ⟨fun said => ?_, fun y hy => ?_, seen_app h.seen fun op hop => (ho op hop).1, fun i a ha hm => ?_, fun c hc h0 i a ha hl => ?_, fun c hc h0 i a ha hl hw => ?_⟩
 ·refine noRace_append (h.clean said) hu fun i a ha op hop b hb hc => ?_
  obtain ⟨hl, hmem, hw, _⟩ := hc
  have hbm : b.loc.isMemory = true := hl ▸ hmem
  rcases Nat.eq_zero_or_pos x with rfl | hpos
  ·obtain ⟨y, hy, hk, hh⟩ := h.all i a ha hmem
   rcases Nat.eq_zero_or_pos y with rfl | hy0
   ·exact hk
   ·exfalso
    rcases hh (by omega) with h1 | ⟨h1, h1w⟩
    ·rcases (ho op hop).2 b hb hbm with h2 | ⟨h2, _⟩
     ·exact InL.no (fun bb p q => hA.mm y 0 bb hy hx (by omega) p q) h1 (hl ▸ h2)
     ·exact InL.no (fun bb p q => hA.ms y 0 bb hy hx p q) h1 (hl ▸ h2)
    ·have hbw : b.write = true := hw.resolve_left (by simp [h1w])
     rcases (ho op hop).2 b hb hbm with h2 | ⟨_, h2⟩
     ·exact InL.no (fun bb p q => hA.ms 0 y bb hx hy p q) (hl ▸ h2) h1
     ·rw [h2] at hbw; cases hbw
  ·have hxa : act x := hx.resolve_left (by omega)
   rcases (ho op hop).2 b hb hbm with h2 | ⟨h2, h2w⟩
   ·exact h.own x hxa (by omega) i a ha (hl ▸ h2)
   ·exact h.wr x hxa (by omega) i a ha (hl ▸ h2) (hw.resolve_right (by simp [h2w]))
 ·by_cases e : x = y
  ·subst e; exact hd
  ·rw [Deaf_other t (g := y) (g' := x) (by first | exact e | exact fun q => e q.symm) u hu]; exact h.hears y hy
 ·rcases hold ha with ha' | ⟨op, hop, hoa, hk⟩
  ·obtain ⟨y, hy, hk, hh⟩ := h.all i a ha' hm
   exact ⟨y, hy, hk.app u, hh⟩
  ·exact ⟨x, hx, hk, fun _ => (ho op hop).2 a hoa hm⟩
 ·rcases hold ha with ha' | ⟨op, hop, hoa, hk⟩
  ·exact (h.own c hc h0 i a ha' hl).app u
  ·by_cases e : x = c
   ·subst e; exact hk
   ·exfalso
    rcases (ho op hop).2 a hoa (mem_of hl) with h2 | ⟨h2, _⟩
    ·exact InL.no (fun bb p q => hA.mm x c bb hx (.inr hc) e p q) h2 hl
    ·exact InL.no (fun bb p q => hA.ms c x bb (.inr hc) hx p q) hl h2
 ·rcases hold ha with ha' | ⟨op, hop, hoa, hk⟩
  ·exact (h.wr c hc h0 i a ha' hl hw).app u
  ·by_cases e : x = c
   ·subst e; exact hk
   ·exfalso
    rcases (ho op hop).2 a hoa (mem_of hl) with h2 | ⟨_, h2⟩
    ·exact InL.no (fun bb p q => hA.ms x c bb hx (.inr hc) p q) h2 hl
    ·rw [hw] at h2; cases h2
theorem Tr.mute (h : Tr B t act H) (hn : ∀ op ∈ u, op.act.touch? = none) (hl : ∀ op ∈ u, op.act.low B) (hd : ∀ x, Ac act x -> Deaf (t ++ u) x = 0) : Tr B (t ++ u) act H := by
 have hold : ∀ {i : Nat} {a : Touch}, touchAt (t ++ u) i = some a -> touchAt t i = some a := by
  intro i a ha
  obtain ⟨z, hz, hza⟩ := touch_of ha
  rcases getElem?_append_cases hz with ⟨_, hz'⟩ | ⟨_, hzu⟩
  ·rw [touchAt_of hz']; exact hza
  ·rw [hn z hzu] at hza; cases hza
 refine ⟨fun said => ?_, hd, seen_app h.seen hl, fun i a ha hm => ?_, fun c hc h0 i a ha hl' => (h.own c hc h0 i a (hold ha) hl').app u, fun c hc h0 i a ha hl' hw => (h.wr c hc h0 i a (hold ha) hl' hw).app u⟩
 ·rintro ⟨i, j, hij, ⟨a, b, ha, hb, hc⟩, n1, n2⟩
  obtain ⟨x, hx, hxa⟩ := touch_of (hold ha)
  obtain ⟨y, hy, hyb⟩ := touch_of (hold hb)
  exact h.clean said ⟨i, j, hij, ⟨a, b, by simp [Trace.act?, hx, hxa], by simp [Trace.act?, hy, hyb], hc⟩, fun e => n1 (hb_app u e), fun e => n2 (hb_app u e)⟩
 ·obtain ⟨x, hx, hk, hh⟩ := h.all i a (hold ha) hm
  exact ⟨x, hx, hk.app u, hh⟩
theorem Tr.fork (h : Tr B t act H) {c : Nat} (hc0 : c ≠ 0) (hdc : Deaf t c = 0) {x y : MemOp} (hx : x.g = 0 /\ x.act = .go c) (hy : y.g = c /\ y.act = .start) {act' : Nat -> Prop} {H' : Nat -> Hold}
  (hact : ∀ z, act' z ↔ act z \/ z = c) (hH : ∀ z, act z -> z ≠ 0 -> H' z = H z) (hcm : ∀ b, ¬ (H' c).mine b) (hcs : ∀ b, (H' c).sh b -> ∀ z, act z -> z ≠ 0 -> ¬ (H z).mine b) (hnew : ¬ act c) : Tr B (t ++ #[x, y]) act' H' := by
 have hd : ∀ z, Deaf (t ++ #[x, y]) z = Deaf t z := by
  intro z
  have e : t ++ #[x, y] = (t ++ #[x]) ++ #[y] := by apply Array.ext'; simp
  rw [e]
  have hone : ∀ (s : Trace) (o : MemOp), (∀ m, o.act = .mark m -> m ≠ .disable /\ m ≠ .enable) -> Deaf (s ++ #[o]) z = Deaf s z := by
   intro s o ho
   unfold Deaf
   have hs : (s ++ #[o])[s.size]? = some o := by simp
   have : (s ++ #[o]).size = s.size + 1 := by simp
   rw [this, deaf_succ hs, deaf_old (nR _)]
   unfold deafStep
   split
   ·rename_i e1; exact absurd rfl (ho _ e1).1
   ·rename_i e1; exact absurd rfl (ho _ e1).2
   ·rfl
  rw [hone _ y (by rw [hy.2]; intro m hm; cases hm), hone _ x (by rw [hx.2]; intro m hm; cases hm)]
 have hm : Tr B (t ++ #[x, y]) act H := h.mute (fun op hop => by
  simp only [List.mem_toArray, List.mem_cons, List.not_mem_nil, or_false] at hop
  rcases hop with rfl | rfl
  ·rw [hx.2]; rfl
  ·rw [hy.2]; rfl) (fun op hop => by
  simp only [List.mem_toArray, List.mem_cons, List.not_mem_nil, or_false] at hop
  rcases hop with rfl | rfl
  ·rw [hx.2]; exact trivial
  ·rw [hy.2]; exact trivial) fun z hz => by rw [hd]; exact h.hears z hz
 have old : ∀ {i : Nat} {a : Touch}, touchAt (t ++ #[x, y]) i = some a -> touchAt t i = some a := by
  intro i a ha
  obtain ⟨z, hz, hza⟩ := touch_of ha
  rcases getElem?_append_cases hz with ⟨_, hz'⟩ | ⟨_, hzu⟩
  ·rw [touchAt_of hz']; exact hza
  ·simp only [List.mem_toArray, List.mem_cons, List.not_mem_nil, or_false] at hzu
   rcases hzu with rfl | rfl
   ·rw [hx.2] at hza; cases hza
   ·rw [hy.2] at hza; cases hza
 refine ⟨hm.clean, fun z hz => ?_, hm.seen, fun i a ha hmem => ?_, fun z hz h0 i a ha hl => ?_, fun z hz h0 i a ha hl hw => ?_⟩
 ·rw [hd]
  rcases hz with rfl | hz
  ·exact h.hears 0 (.inl rfl)
  ·rcases (hact z).1 hz with hz | rfl
   ·exact h.hears z (.inr hz)
   ·exact hdc
 ·obtain ⟨z, hz, hk, hh⟩ := hm.all i a ha hmem
  refine ⟨z, hz.imp id fun q => (hact z).2 (.inl q), hk, fun h0 => ?_⟩
  rw [hH z (hz.resolve_left h0) h0]
  exact hh h0
 ·rcases (hact z).1 hz with hz' | rfl
  ·rw [hH z hz' h0] at hl
   exact hm.own z hz' h0 i a ha hl
  ·exact (InL.no (q := fun _ => True) (fun b p _ => hcm b p) hl (hl.mono fun _ _ => trivial)).elim
 ·rcases (hact z).1 hz with hz' | rfl
  ·rw [hH z hz' h0] at hl
   exact hm.wr z hz' h0 i a ha hl hw
  ·refine fork_knows hx hy (h.hears 0 (.inl rfl)) hdc ?_
   have mem_of : ∀ {l : Loc} {p : Nat -> Prop}, InL p l -> l.isMemory = true := fun {l} {p} hl => by cases l <;> first | rfl | exact hl.elim
   obtain ⟨q, hq, hk, hh⟩ := h.all i a (old ha) (mem_of hl)
   rcases Nat.eq_zero_or_pos q with rfl | hpos
   ·exact hk
   ·exfalso
    rcases hh (by omega) with h1 | ⟨_, h1⟩
    ·exact InL.no (fun b p r => hcs b p q (hq.resolve_left (by omega)) (by omega) r) hl h1
    ·rw [hw] at h1; cases h1
theorem deaf_plain (t u : Trace) (g : Nat) (hu : ∀ op ∈ u, op.act ≠ .mark .disable /\ op.act ≠ .mark .enable) : ∀ i, i <= u.size -> (t ++ u).deaf g (t.size + i) = Deaf t g
 | 0, _ => by rw [Nat.add_zero, deaf_old (nR _)]; rfl
 | i + 1, h => by
  have hi : i < u.size := by omega
  have hs : (t ++ u)[t.size + i]? = some u[i] := by
   rw [Array.getElem?_append_right (by omega)]
   simp [aG hi]
  rw [show t.size + (i + 1) = t.size + i + 1 by omega, deaf_succ hs, deaf_plain t u g hu i (by omega)]
  have := hu u[i] (Array.getElem_mem hi)
  unfold deafStep
  split
  ·rename_i e; exact absurd e this.1
  ·rename_i e; exact absurd e this.2
  ·rfl
theorem Deaf_plain (t u : Trace) (g : Nat) (hu : ∀ op ∈ u, op.act ≠ .mark .disable /\ op.act ≠ .mark .enable) : Deaf (t ++ u) g = Deaf t g := by
 have := deaf_plain t u g hu u.size (nR _)
 unfold Deaf
 rw [Array.size_append]
 exact this
theorem Tr.hand (h : Tr B t act H) {c ch k : Nat} (hc : act c) {o1 o2 o3 o4 : MemOp} (h1 : o1.g = c /\ o1.act = .send ch k) (h2 : o2.g = 0 /\ o2.act = .recv ch k 0) (h3 : o3.g = c /\ o3.act = .sendDone ch k) (h4 : o4.g = 0 /\ o4.act = .recvDone ch k)
  (hch : ch < B) {act' : Nat -> Prop} (hact : ∀ z, act' z ↔ act z /\ z ≠ c) : Tr B (t ++ #[o1, o2, o3, o4]) act' H := by
 have hmem : ∀ op ∈ #[o1, o2, o3, o4], op = o1 \/ op = o2 \/ op = o3 \/ op = o4 := fun op hop => by simpa using hop
 have hnt : ∀ op ∈ #[o1, o2, o3, o4], op.act.touch? = none := fun op hop => by
  rcases hmem op hop with rfl | rfl | rfl | rfl
  ·rw [h1.2]; rfl
  ·rw [h2.2]; rfl
  ·rw [h3.2]; rfl
  ·rw [h4.2]; rfl
 have hpl : ∀ op ∈ #[o1, o2, o3, o4], op.act ≠ .mark .disable /\ op.act ≠ .mark .enable := fun op hop => by
  rcases hmem op hop with rfl | rfl | rfl | rfl
  ·rw [h1.2]; exact ⟨by simp, by simp⟩
  ·rw [h2.2]; exact ⟨by simp, by simp⟩
  ·rw [h3.2]; exact ⟨by simp, by simp⟩
  ·rw [h4.2]; exact ⟨by simp, by simp⟩
 have hlow : ∀ op ∈ #[o1, o2, o3, o4], op.act.low B := fun op hop => by
  rcases hmem op hop with rfl | rfl | rfl | rfl
  ·rw [h1.2]; exact hch
  ·rw [h2.2]; exact hch
  ·rw [h3.2]; exact hch
  ·rw [h4.2]; exact hch
 have hm : Tr B (t ++ #[o1, o2, o3, o4]) act H := h.mute hnt hlow fun z hz => by rw [Deaf_plain t _ z hpl]; exact h.hears z hz
 have g1 : (t ++ #[o1, o2, o3, o4])[t.size]? = some o1 := by rw [Array.getElem?_append_right (nR _)]; simp
 have g4 : (t ++ #[o1, o2, o3, o4])[t.size + 3]? = some o4 := by rw [Array.getElem?_append_right (by omega)]; simp
 have e0 : (t ++ #[o1, o2, o3, o4]).heard t.size := ⟨c, by simp [Trace.g?, h1.1], by have := deaf_plain t _ c hpl 0 (by simp); rw [Nat.add_zero] at this; rw [this]; exact h.hears c (.inr hc)⟩
 have e3 : (t ++ #[o1, o2, o3, o4]).heard (t.size + 3) := ⟨0, by simp [Trace.g?, h4.1], by rw [deaf_plain t _ 0 hpl 3 (by simp)]; exact h.hears 0 (.inl rfl)⟩
 have known : ∀ i, Knows t c i -> Knows (t ++ #[o1, o2, o3, o4]) 0 i := fun i hk => by
  have q1 : HappensBefore (t ++ #[o1, o2, o3, o4]) i t.size := hk.hb_new (nR _) g1 h1.1
  exact ⟨t.size + 3, o4, g4, h4.1, .inr (q1.trans (.single (.inr ⟨.handOver (c := ch) (k := k) (by rw [act?_of g1, h1.2]) (by rw [act?_of g4, h4.2]), e0, e3⟩)))⟩
 have old : ∀ {i : Nat} {a : Touch}, touchAt (t ++ #[o1, o2, o3, o4]) i = some a -> touchAt t i = some a := by
  intro i a ha
  obtain ⟨z, hz, hza⟩ := touch_of ha
  rcases getElem?_append_cases hz with ⟨_, hz'⟩ | ⟨_, hzu⟩
  ·rw [touchAt_of hz']; exact hza
  ·rw [hnt z hzu] at hza; cases hza
 refine ⟨hm.clean, fun z hz => hm.hears z (hz.imp id fun q => ((hact z).1 q).1), hm.seen, fun i a ha hmem => ?_, fun z hz => hm.own z ((hact z).1 hz).1, fun z hz => hm.wr z ((hact z).1 hz).1⟩
 obtain ⟨z, hz, hk, hh⟩ := h.all i a (old ha) hmem
 by_cases e : z = c
 ·subst e
  exact ⟨0, .inl rfl, known i hk, fun q => absurd rfl q⟩
 ·exact ⟨z, hz.imp id fun q => (hact z).2 ⟨q, e⟩, hk.app _, hh⟩
theorem Tr.past (h : Tr B t act H) (hn : ∀ c, act c -> c = 0) : Past (fun _ => False) B t := by
 have hk : ∀ i a, touchAt t i = some a -> a.loc.isMemory = true -> Knows t 0 i := fun i a ha hm => by
  obtain ⟨z, hz, hk, _⟩ := h.all i a ha hm
  rcases hz with rfl | hz
  ·exact hk
  ·rw [hn z hz] at hk; exact hk
 refine ⟨h.clean, fun i a ha hm => .inl (hk i a ha hm), fun i g hg hne hc => ?_, h.hears 0 (.inl rfl), h.seen⟩
 obtain ⟨a, ha, hm, _⟩ := hc
 obtain ⟨q, z, h1, h2, h3⟩ := hk i a ha hm
 refine ⟨q, by simp [Trace.g?, h1, h2], ?_⟩
 rcases h3 with rfl | h3
 ·exfalso
  simp only [Trace.g?, h1, Option.map_some, oI] at hg
  omega
 ·exact h3
theorem Tr.of_past (h : Past (fun _ => False) B t) (H : Nat -> Hold) : Tr B t (fun _ => False) H :=
  ⟨h.clean, fun x hx => by rcases hx with rfl | hx
                           · exact h.hears
                           · exact hx.elim, h.seen, fun i a ha hm => ⟨0, .inl rfl, (h.known i a ha hm).resolve_right fun q => q.1, fun q => absurd rfl q⟩, fun c hc => hc.elim, fun c hc => hc.elim⟩
end
section
variable {P : Program}
theorem choose_lt (q : Question) (n : Nat) (hn : 0 < n) (hf : q.forced = true \/ ∀ t, q.cut t < n) (w : World) : ∃ k d, k < n /\ (choose q).run P w = .ok k (w.at d) := by
 by_cases h : q.forced = true
 ·exact ⟨0, w.drawn, hn, by simp [choose, Sem.run, h, World.at]⟩
 ·exact ⟨q.cut (w.tape w.drawn q), w.drawn + 1, hf.resolve_left h _, by simp [choose, Sem.run, h, World.at]⟩
theorem choose_select (n : Nat) (hn : 0 < n) (w : World) : ∃ k d, k < n /\ (choose (.select n)).run P w = .ok k (w.at d) := by
 refine choose_lt _ n hn ?_ w
 exact .inr fun t => Nat.mod_lt _ hn
theorem choose_extern (s : String) (n : Nat) (hn : 0 < n) (w : World) : ∃ k d, k < n /\ (choose (.extern s n)).run P w = .ok k (w.at d) := by
 refine choose_lt _ n hn (.inr fun t => ?_) w
 simp only [Question.cut]
 rw [if_neg (by omega)]
 exact Nat.mod_lt _ hn
theorem ways_recv {w : World} {gs : Array Goroutine} {c s r : Nat} {z : Value} {tm : Bool} (hc : w.heap[c]? = some (.chan 0 #[] false s r tm)) : ways w gs (rcase c z) = (partners gs c true).map fun p => .partner p.1 p.2 := by
 simp only [ways, rcase, hc, Array.size_empty, Nat.lt_irrefl, if_false]
 cases partners gs c true with
 | nil => rfl
 | cons p l => rfl
theorem crowd_sel_any {gs : Array Goroutine} {w w₁ : World} {sl : Option (Nat × Nat)} {i : Nat} {g g₂ : Goroutine} {es : Array Event} {cases : Array CommCase} {shape : CommShape}
    (hi : gs[i]? = some g) (h : stepG P (i == 0) g w = .comm g₂ cases true shape w₁ es) (hcs : ∀ cc ∈ cases, ∃ c z s r, cc = rcase c z /\ w₁.heap[c]? = some (.chan 0 #[] false s r false))
    (hsome : ∃ cc ∈ cases, ∃ c z, cc = rcase c z /\ partners (gs.setIfInBounds i ph) c true ≠ []) :
    ∃ (k c : Nat) (z : Value) (j kk s r d : Nat), cases[k]? = some (rcase c z) /\ (j, kk) ∈ partners (gs.setIfInBounds i ph) c true /\ w₁.heap[c]? = some (.chan 0 #[] false s r false) /\
      runT P (crowd gs w sl) i = (.next (crowd ((finishPartner P (gs.setIfInBounds i ph) j kk undef).setIfInBounds i (g₂.finishComm P cases shape k (offeredValue (gs.setIfInBounds i ph) j kk) true)) ((w₁.at d).setChan c 0 #[] false (s + 1) (r + 1) false) sl),
        MemOp.ofEvents i g.frame.fn g.frame.place es ++ #[{ g := j, fn := ((gs.setIfInBounds i ph).getD j default).frame.fn, pos := ((gs.setIfInBounds i ph).getD j default).frame.place, act := .send c s }, { g := i, fn := g₂.frame.fn, pos := g₂.frame.place, act := .recv c r 0 },
          { g := j, fn := ((gs.setIfInBounds i ph).getD j default).frame.fn, pos := ((gs.setIfInBounds i ph).getD j default).frame.place, act := .sendDone c s }, { g := i, fn := g₂.frame.fn, pos := g₂.frame.place, act := .recvDone c r }]) := by
  generalize hgs : gs.setIfInBounds i ph = gp at *
  have hready : ((cases.zipIdx.toList.map fun (c, k) => (k, c, ways w₁ gp c)).filter fun (_, _, ws) => !ws.isEmpty) ≠ [] := by
    obtain ⟨cc, hcc, c, z, rfl, hp⟩ := hsome
    obtain ⟨k, hk, e⟩ := Array.mem_iff_getElem.1 hcc
    intro he
    rw [List.filter_eq_nil_iff] at he
    obtain ⟨c', z', s, r, e1, e2⟩ := hcs _ hcc
    have := he (k, rcase c z, ways w₁ gp (rcase c z)) (by
      rw [List.mem_map]
      exact ⟨(rcase c z, k), Array.mem_toList_iff.2 (Array.mem_zipIdx_iff_getElem?.2 (by simp [aG hk, e])), rfl⟩)
    have hce : c' = c := by
      have := congrArg CommCase.chan e1
      simp [rcase] at this
      exact this.symm
    subst hce
    rw [ways_recv e2] at this
    cases hpp : partners gp c' true with
    | nil => exact hp hpp
    | cons p l => rw [hpp] at this; simp at this
  generalize hR : ((cases.zipIdx.toList.map fun (c, k) => (k, c, ways w₁ gp c)).filter fun (_, _, ws) => !ws.isEmpty) = ready at *
  have hmem : ∀ x ∈ ready, ∃ k c z s r, cases[k]? = some (rcase c z) /\ w₁.heap[c]? = some (.chan 0 #[] false s r false) /\ x = (k, rcase c z, (partners gp c true).map fun p => .partner p.1 p.2) /\ partners gp c true ≠ [] := by
    intro x hx
    rw [<- hR, List.mem_filter, List.mem_map] at hx
    obtain ⟨⟨⟨cc, k⟩, hm, rfl⟩, hne⟩ := hx
    have hk : cases[k]? = some cc := by
      have := Array.mem_zipIdx_iff_getElem?.1 (Array.mem_toList_iff.1 hm)
      simpa using this
    obtain ⟨c, z, s, r, rfl, hc⟩ := hcs cc (Array.mem_of_getElem? hk)
    refine ⟨k, c, z, s, r, hk, hc, by rw [<- ways_recv hc], fun e => ?_⟩
    dsimp only at hne
    rw [ways_recv hc, e] at hne
    simp at hne
  have hlen : 0 < ready.length := List.length_pos_iff.2 hready
  obtain ⟨a, d1, ha, e1⟩ := choose_select (P := P) ready.length hlen w₁
  obtain ⟨k, c, z, s, r, hk, hc, hx, hp⟩ := hmem ready[a] (List.getElem_mem ha)
  have hget : ready.getD a (0, default, []) = (k, rcase c z, (partners gp c true).map fun p => .partner p.1 p.2) := by
    rw [<- hx, lD, lG ha]; rfl
  have hlen2 : 0 < ((partners gp c true).map fun p => Way.partner p.1 p.2).length := by
    rw [List.length_map]; exact List.length_pos_iff.2 hp
  obtain ⟨b, d2, hb, e2⟩ := choose_extern (P := P) "which waiting goroutine is the partner" _ hlen2 (w₁.at d1)
  rw [List.length_map] at hb
  have hget2 : ((partners gp c true).map fun p => Way.partner p.1 p.2).getD b .closed = .partner (partners gp c true)[b].1 (partners gp c true)[b].2 := by
    rw [lD, List.getElem?_map, lG hb]; rfl
  refine ⟨k, c, z, (partners gp c true)[b].1, (partners gp c true)[b].2, s, r, d2, hk, List.getElem_mem hb, hc, ?_⟩
  rw [runT_crowd_comm hi h, hgs]
  have hill : cases.any (illMade w₁) = false := any_ill fun cc hcc => by
    obtain ⟨c, z, s, r, rfl, hc⟩ := hcs cc hcc
    exact made_recv z hc
  have hpick : (do
      let a <- choose (.select ready.length)
      let (k, c, ws) := ready.getD a (0, default, [])
      let b <- choose (.extern "which waiting goroutine is the partner" ws.length)
      pure (k, c, ws.getD b .closed) : Sem (Nat × CommCase × Way)).run P w₁ = .ok (k, rcase c z, .partner (partners gp c true)[b].1 (partners gp c true)[b].2) (w₁.at d2) := by
    rw [run_bind, e1]
    simp only [hget]
    rw [run_bind, e2]
    simp only [hget2]
    rfl
  have hne : ready.isEmpty = false := by cases ready with
    | nil => exact absurd rfl hready
    | cons _ _ => rfl
  unfold communicate
  rw [if_neg (by rw [Bool.not_eq_true]; exact hill)]
  simp only [hR]
  rw [if_neg (by rw [hne]; simp)]
  simp only [hpick]
  have hc2 : (w₁.at d2).heap[c]? = some (.chan 0 #[] false s r false) := hc
  simp only [rcase, hc2]
  rfl
where
  run_bind {α β : Type} (s : Sem α) (f : α -> Sem β) (w : World) : (s >>= f).run P w = match s.run P w with | .ok a w1 => (f a).run P w1 | .halt h w1 => .halt h w1 := by
    show (s.bind f).run P w = _
    induction s generalizing w with
    | pure a => rfl
    | load m a k ih =>
      simp only [Sem.bind, Sem.run]
      split
      · exact ih _ _
      · split
        · exact ih _ _
        · rfl
    | store m a v k ih =>
      cases v <;> first
      | rfl
      | (simp only [Sem.bind, Sem.run]
         split
         · split
           · rfl
           · exact ih _
         · split
           · exact ih _
           · rfl)
    | new o k ih => exact ih _ _
    | shape r k ih => exact ih _ _
    | freeze a n k ih => exact ih _
    | frozen a k ih => exact ih _ _
    | getObj r k ih =>
      simp only [Sem.bind, Sem.run]
      split <;> first | rfl | exact ih _ _
    | setObj r o k ih =>
      simp only [Sem.bind, Sem.run]
      split <;> first | rfl | exact ih _
    | choose q k ih =>
      simp only [Sem.bind, Sem.run]
      split <;> exact ih _ _
    | sys c k ih => exact ih _ _
    | program k ih => exact ih _ _
    | mark m k ih => exact ih _
    | halt x => rfl
end
structure Trees {X : Type} (T : Nat -> X -> Prop) (Node : Nat -> (X -> Prop) -> X -> Prop) : Prop where
 mono : ∀ i (Ψ Ψ' : X -> Prop) x, (∀ y, Ψ y -> Ψ' y) -> Node i Ψ x -> Node i Ψ' x
 ind : ∀ i (Ψ : X -> Prop), (∀ x, T i x -> Node i (fun y => T i y /\ Ψ y) x -> Ψ x) -> ∀ x, T i x -> Ψ x
theorem Trees.shift {X : Type} {T : Nat -> X -> Prop} {Node : Nat -> (X -> Prop) -> X -> Prop} (h : Trees T Node) : Trees (fun i => T (i + 1)) (fun i => Node (i + 1)) := ⟨fun i => h.mono (i + 1), fun i => h.ind (i + 1)⟩
theorem pool_ind {X : Type} : ∀ (n : Nat) {T : Nat -> X -> Prop} {Node : Nat -> (X -> Prop) -> X -> Prop} (_ : Trees T Node) (Φ : List (Option X) -> Prop)
  (_ : ∀ l, (∀ i x, l[i]? = some (some x) -> T i x /\ Node i (fun y => T i y /\ Φ (l.set i (some y))) x) -> Φ l) (l : List (Option X)), l.length = n -> (∀ i x, l[i]? = some (some x) -> T i x) -> Φ l
 | 0, _, _, _, Φ, H, l, hl, _ => by
  obtain rfl : l = [] := List.length_eq_zero_iff.1 hl
  exact H [] (fun i x h => by simp at h)
 | n + 1, T, Node, tr, Φ, H, l, hl, hT => by
  cases l with
  | nil => cases hl
  | cons o xs =>
   have hlen : xs.length = n := by simpa using hl
   cases o with
   | none =>
    refine pool_ind n tr.shift (fun ys => Φ (none :: ys)) (fun ys h => H (none :: ys) fun i x hx => ?_) xs hlen fun i x hx => hT (i + 1) x (by simpa using hx)
    cases i with
    | zero => simp at hx
    | succ i => exact h i x (by simpa using hx)
   | some x =>
    refine tr.ind 0 (fun x => ∀ ys : List (Option X), ys.length = n -> (∀ i y, ys[i]? = some (some y) -> T (i + 1) y) -> Φ (some x :: ys)) (fun x hx hN ys hly hys => ?_) x (hT 0 x rfl) xs hlen fun i y hy => hT (i + 1) y (by simpa using hy)
    refine pool_ind n tr.shift (fun zs => zs.length = n -> (∀ i y, zs[i]? = some (some y) -> T (i + 1) y) -> Φ (some x :: zs)) (fun zs h hz hzs => H (some x :: zs) fun i x' hx' => ?_) ys hly hys hly hys
    cases i with
    | zero =>
     simp only [List.getElem?_cons_zero, oI] at hx'
     subst hx'
     exact ⟨hx, tr.mono 0 _ _ x (fun y hy => ⟨hy.1, hy.2 zs hz hzs⟩) hN⟩
    | succ i =>
     obtain ⟨h1, h2⟩ := h i x' (by simpa using hx')
     refine ⟨h1, tr.mono (i + 1) _ _ x' (fun y hy => ⟨hy.1, ?_⟩) h2⟩
     refine hy.2 (by simpa using hz) fun j y' hj => ?_
     rw [List.getElem?_set] at hj
     split at hj
     ·rename_i e
      split at hj
      ·simp only [oI] at hj
       subst e hj; exact hy.1
      ·cases hj
     ·exact hzs j y' hj
def NodeM (P : Program) (mn : Bool) (Stop : Hold -> Goroutine -> World -> Prop) (Ψ : Hold × Goroutine × World -> Prop) (x : Hold × Goroutine × World) : Prop :=
 x.2.1.status = .running /\ ((∀ u', Off x.1 x.2.2 u' -> Stop x.1 x.2.1 u') \/ ∀ u', Off x.1 x.2.2 u' -> ∃ y, EdgeM P mn x.1 x.2.1 u' y /\ Ψ y)
theorem trees_runM (P : Program) (mn : Nat -> Bool) (Stop : Nat -> Hold -> Goroutine -> World -> Prop) : Trees (fun i => RunM P (mn i) (Stop i)) (fun i => NodeM P (mn i) (Stop i)) := by
 refine ⟨fun i Ψ Ψ' x h hn => ⟨hn.1, hn.2.imp id fun h2 u' ho => let ⟨y, h3, h4⟩ := h2 u' ho; ⟨y, h3, h y h4⟩⟩, fun i Ψ H x hx => ?_⟩
 induction hx with
 | stop h1 h2 => exact H _ (.stop h1 h2) ⟨h1, .inl h2⟩
 | step next h1 h2 h3 ih => exact H _ (.step next h1 h2 h3) ⟨h1, .inr fun u' ho => ⟨next u', h3 u' ho, h2 u' ho, ih u' ho⟩⟩
theorem all_below : ∀ (n : Nat) (l : List Nat), l.Nodup -> (∀ x ∈ l, x < n) -> l.length <= n /\ (l.length = n -> ∀ x, x < n -> x ∈ l)
 | 0, l, _, h => by
  cases l with
  | nil => exact ⟨nR _, fun _ x hx => by omega⟩
  | cons a l => have := h a (List.mem_cons_self ..); omega
 | n + 1, l, hd, h => by
  by_cases hm : n ∈ l
  ·have hd' : (l.erase n).Nodup := hd.erase n
   have h' : ∀ x ∈ l.erase n, x < n := fun x hx => by
    have h1 := h x (List.mem_of_mem_erase hx)
    have h2 : x ≠ n := fun e => by subst e; exact (List.Nodup.not_mem_erase hd) hx
    omega
   obtain ⟨a1, a2⟩ := all_below n (l.erase n) hd' h'
   have hlen : (l.erase n).length = l.length - 1 := List.length_erase_of_mem hm
   have hpos : 0 < l.length := List.length_pos_of_mem hm
   refine ⟨by omega, fun e x hx => ?_⟩
   by_cases ex : x = n
   ·subst ex; exact hm
   ·exact List.mem_of_mem_erase (a2 (by omega) x (by omega))
  ·have h' : ∀ x ∈ l, x < n := fun x hx => by
    have h1 := h x hx
    have h2 : x ≠ n := fun e => by subst e; exact hm hx
    omega
   obtain ⟨a1, _⟩ := all_below n l hd h'
   exact ⟨by omega, fun e => by omega⟩
abbrev X := Hold × Goroutine × World
structure Ph where
 n0 : Nat
 Hn : Nat
 chA : Nat
 chB : Nat
 z0 : Value
 val : Nat -> Value
 isA : Nat -> Bool
 u0 : World
 pos : 0 < n0
 ne : chA ≠ chB
 lowA : u0.heap.size <= chA
 lowB : u0.heap.size <= chB
section
variable (P : Program) (φ : Ph)
def Ph.chan (h : Nat) : Nat := if φ.isA h then φ.chA else φ.chB
def Ph.cases : Array CommCase := #[rcase φ.chA φ.z0, rcase φ.chB φ.z0]
def Ph.send (h : Nat) : Array CommCase := #[scase (φ.chan h) (φ.val h) (.tuple #[])]
def AtSend (h : Nat) (_ : Hold) (g : Goroutine) (u : World) : Prop :=
 ∃ g₂ q, stepG P false g u = .comm g₂ (φ.send h) true .send u #[] /\ QuitsD P q 0 (Go.Conc.served g₂ undef)
def AtGo (k : Nat) (K : X -> Prop) (H : Hold) (g : Goroutine) (u : World) : Prop :=
 ∃ g' child, stepG P true g u = .spawn g' child u #[] /\ RunM P false (AtSend P φ k) (⟨fun _ => False, fun b => H.mine b \/ H.sh b⟩, child, u) /\ K (⟨fun _ => False, fun b => H.mine b \/ H.sh b⟩, g', u)
def AtSel (K : Nat -> X -> Prop) (H : Hold) (g : Goroutine) (u : World) : Prop :=
 ∃ g₂, stepG P true g u = .comm g₂ φ.cases true .select u #[] /\ ∀ h, h < φ.Hn -> ∀ u', Off H u u' -> K h (H, g₂.finishComm P φ.cases .select (if φ.isA h then 0 else 1) (φ.val h) true, u')
variable (Fin : Hold -> Goroutine -> World -> Prop)
def StopMain : Nat -> Nat -> List Nat -> Hold -> Goroutine -> World -> Prop
 | 0, _, _ => Fin
 | n + 1, k, D => fun H g u => if k < φ.Hn then AtGo P φ k (RunM P true (StopMain n (k + 1) D)) H g u else AtSel P φ (fun h x => h ∉ D -> RunM P true (StopMain n k (h :: D)) x) H g u
def StopAll (n k : Nat) (D : List Nat) (i : Nat) : Hold -> Goroutine -> World -> Prop := if i = 0 then StopMain P φ Fin n k D else AtSend P φ (i - φ.n0)
end
def Kid (φ : Ph) (k : Nat) (D : List Nat) (c : Nat) : Prop := φ.n0 <= c /\ c < φ.n0 + k /\ (c - φ.n0) ∉ D
def Parked (P : Program) (φ : Ph) (i : Nat) (g : Goroutine) : Prop := ∃ g₂ q, g = parked g₂ (φ.send (i - φ.n0)) .send /\ QuitsD P q 0 (Go.Conc.served g₂ undef)
structure Ext (u0 u : World) : Prop where
 size : u0.heap.size <= u.heap.size
 keep : ∀ b, b < u0.heap.size -> u.heap[b]? = u0.heap[b]?
 same : u.tape = u0.tape /\ u.os = u0.os /\ u.output = u0.output
theorem Ext.refl (u : World) : Ext u u := ⟨nR _, fun _ _ => rfl, rfl, rfl, rfl⟩
structure Inv (P : Program) (φ : Ph) (Fin : Hold -> Goroutine -> World -> Prop) (n k : Nat) (D : List Nat) (l : List (Option X)) (gs : Array Goroutine) (u : World) (t : Trace) (q : Nat -> Nat) (H : Nat -> Hold) : Prop where
 cnt : n + k + D.length = 2 * φ.Hn
 kle : k <= φ.Hn
 dnd : D.Nodup
 dlt : ∀ h ∈ D, h < k
 dpos : k < φ.Hn -> D = []
 len : l.length = gs.size
 size : gs.size = φ.n0 + k
 priv : ∀ i x, l[i]? = some (some x) -> gs[i]? = some x.2.1 /\ x.1 = H i /\ Off (H i) x.2.2 u /\ x.2.1.status = .running
 kidp : ∀ i x, i ≠ 0 -> l[i]? = some (some x) -> Kid φ k D i
 rest : ∀ i g, i ≠ 0 -> l[i]? = some none -> gs[i]? = some g -> (Kid φ k D i /\ Parked P φ i g) \/ (¬ Kid φ k D i /\ QuitsD P (q i) (Deaf t i) g)
 main : l[0]? = some none -> ∃ g₂ n', gs[0]? = some (parked g₂ φ.cases .select) /\ n = n' + 1 /\ k = φ.Hn /\
  (∀ h, h < φ.Hn -> h ∉ D -> ∀ u', Off (H 0) u u' -> RunM P true (StopMain P φ Fin n' k (h :: D)) (H 0, g₂.finishComm P φ.cases .select (if φ.isA h then 0 else 1) (φ.val h) true, u')) /\
  ∀ i, Kid φ k D i -> ∃ x, l[i]? = some (some x)
 tr : Tr u.heap.size t (Kid φ k D) H
 apt : Apt (Kid φ k D) H
 low : ∀ i b, Ac (Kid φ k D) i -> (H i).mine b \/ (H i).sh b -> b < u.heap.size /\ b ≠ φ.chA /\ b ≠ φ.chB
 base : ∀ i b, Ac (Kid φ k D) i -> (H i).mine b -> φ.u0.heap.size <= b
 ext : Ext φ.u0 u
 above : ∀ j, gs.size <= j -> Deaf t j = 0
 chans : ∃ s s', u.heap[φ.chA]? = some (.chan 0 #[] false s s false) /\ u.heap[φ.chB]? = some (.chan 0 #[] false s' s' false)
section
variable {P : Program} {φ : Ph} {Fin : Hold -> Goroutine -> World -> Prop} {n k : Nat} {D : List Nat} {l : List (Option X)} {gs : Array Goroutine} {u : World} {t : Trace} {q : Nat -> Nat} {H : Nat -> Hold}
theorem Kid.ne0 {c : Nat} (h : Kid φ k D c) : c ≠ 0 := by have := h.1; have := φ.pos; omega
theorem Inv.lt (h : Inv P φ Fin n k D l gs u t q H) {i : Nat} {o : Option X} (hi : l[i]? = some o) : i < gs.size := by rw [<- h.len]; exact (List.getElem?_eq_some_iff.1 hi).1
theorem Inv.ac (h : Inv P φ Fin n k D l gs u t q H) {i : Nat} {x : X} (hi : l[i]? = some (some x)) : Ac (Kid φ k D) i := by
 by_cases e : i = 0
 ·exact .inl e
 ·exact .inr (h.kidp i x e hi)
theorem Inv.pos (h : Inv P φ Fin n k D l gs u t q H) : 0 < gs.size := by have := φ.pos; have := h.size; omega
theorem Inv.some_of_lt (h : Inv P φ Fin n k D l gs u t q H) {i : Nat} (hi : i < gs.size) : ∃ o, l[i]? = some o := ⟨_, lG (by rw [h.len]; exact hi)⟩
theorem again_open {g : Goroutine} {cs : Array CommCase} {sh : CommShape} {w : World} (h : ∀ cc ∈ cs, ∃ r cap buf s r' tm, cc.chan = .chan (some r) /\ w.heap[r]? = some (.chan cap buf false s r' tm)) : (parked g cs sh).again w = parked g cs sh := by
 simp only [Goroutine.again, parked]
 rw [if_neg]
 rw [Bool.not_eq_true, Array.any_eq_false]
 intro i hi
 obtain ⟨r, cap, buf, s, r', tm, e, hc⟩ := h cs[i] (Array.getElem_mem hi)
 simp [e, hc]
theorem send_open (hc : ∃ s s', u.heap[φ.chA]? = some (.chan 0 #[] false s s false) /\ u.heap[φ.chB]? = some (.chan 0 #[] false s' s' false)) (h : Nat) : ∃ s, u.heap[φ.chan h]? = some (.chan 0 #[] false s s false) := by
 obtain ⟨s, s', h1, h2⟩ := hc
 unfold Ph.chan
 split
 ·exact ⟨s, h1⟩
 ·exact ⟨s', h2⟩
theorem Inv.woken (h : Inv P φ Fin n k D l gs u t q H) {w : World} (hc : ∃ s s', w.heap[φ.chA]? = some (.chan 0 #[] false s s false) /\ w.heap[φ.chB]? = some (.chan 0 #[] false s' s' false)) (g g' : Goroutine) : gs.map (Go.Conc.woken P g g' w) = gs := by
 have hsend : ∀ (g₂ : Goroutine) (m : Nat), (Go.Conc.parked g₂ (φ.send m) .send).again w = Go.Conc.parked g₂ (φ.send m) .send := fun g₂ m => again_open fun cc hcc => by
  simp only [Ph.send, List.mem_toArray, List.mem_cons, List.not_mem_nil, or_false] at hcc
  subst hcc
  obtain ⟨s, hs⟩ := send_open hc m
  exact ⟨_, _, _, _, _, _, rfl, hs⟩
 have hsel : ∀ (g₂ : Goroutine), (Go.Conc.parked g₂ φ.cases .select).again w = Go.Conc.parked g₂ φ.cases .select := fun g₂ => again_open fun cc hcc => by
  simp only [Ph.cases, List.mem_toArray, List.mem_cons, List.not_mem_nil, or_false] at hcc
  obtain ⟨s, s', h1, h2⟩ := hc
  rcases hcc with rfl | rfl
  ·exact ⟨_, _, _, _, _, _, rfl, h1⟩
  ·exact ⟨_, _, _, _, _, _, rfl, h2⟩
 have key : ∀ x : Goroutine, x.again w = x -> Go.Conc.woken P g g' w x = x := fun x e => by unfold Go.Conc.woken; split <;> first | exact e | rfl
 apply Array.ext_getElem?
 intro i
 rw [Array.getElem?_map]
 cases hi : gs[i]? with
 | none => rfl
 | some x =>
  rw [Option.map_some]
  congr 1
  obtain ⟨o, ho⟩ := h.some_of_lt ((aS.1 hi).1)
  cases o with
  | some y =>
   obtain ⟨h1, _, _, h4⟩ := h.priv i y ho
   rw [hi, oI] at h1
   subst h1
   exact woken_run h4
  | none =>
   by_cases e : i = 0
   ·subst e
    obtain ⟨g₂, _, h1, _⟩ := h.main ho
    rw [hi, oI] at h1
    subst h1
    exact key _ (hsel g₂)
   ·rcases h.rest i x e ho hi with ⟨_, g₂, _, rfl, _⟩ | ⟨_, hq⟩
    ·exact key _ (hsend g₂ _)
    ·exact woken_quitsD hq
theorem off_other {H : Nat -> Hold} {act : Nat -> Prop} (hA : Apt act H) {i j : Nat} (hi : Ac act i) (hj : Ac act j) (hij : i ≠ j) {u u' : World} {H' : Hold} (hd : Does (H i) H' u u') : Off (H j) u u' := by
 refine ⟨hd.size, fun b hb hm => hd.keep b hb fun hmi => ?_, hd.same⟩
 rcases hm with hm | hm
 ·exact hA.mm i j b hi hj hij hmi hm
 ·exact hA.ms i j b hi hj hmi hm
theorem opO_of_evO {B : Nat} {H : Hold} {g : Nat} {fn : FuncId} {pos : String} {es : Array Event} (hes : ∀ e ∈ es, EvO H e) (hlow : ∀ b, H.mine b \/ H.sh b -> b < B) : ∀ op ∈ MemOp.ofEvents g fn pos es, OpO B H op := by
  intro op hop
  obtain ⟨e, he, rfl⟩ := Go.Conc.mem_ofEvents hop
  have := hes e he
  cases this with
  | @read a hm => exact ⟨hlow _ hm, fun b hb _ => by
      simp only [MemAct.ofEvent, MemAct.touch?, oI] at hb
      subst hb
      exact hm.imp (fun x => x) fun x => ⟨x, rfl⟩⟩
  | @write a hm => exact ⟨hlow _ (.inl hm), fun b hb _ => by
      simp only [MemAct.ofEvent, MemAct.touch?, oI] at hb
      subst hb
      exact .inl hm⟩
  | @obj r hm => exact ⟨hlow _ hm, fun b hb _ => by
      simp only [MemAct.ofEvent, MemAct.touch?, oI] at hb
      subst hb
      exact hm.imp (fun x => x) fun x => ⟨x, rfl⟩⟩
  | noRoom x y => exact ⟨trivial, fun b hb _ => by simp [MemAct.ofEvent, MemAct.touch?] at hb⟩
theorem still_of_evO {H : Hold} {es : Array Event} (hes : ∀ e ∈ es, EvO H e) : ∀ e ∈ es, e.loc ≠ .mark .disable /\ e.loc ≠ .mark .enable := by
 intro e he
 have := hes e he
 cases this <;> exact ⟨by simp, by simp⟩
theorem g_ofEvents {g : Nat} {fn : FuncId} {pos : String} {es : Array Event} : ∀ op ∈ MemOp.ofEvents g fn pos es, op.g = g := fun op hop => by obtain ⟨e, _, rfl⟩ := Go.Conc.mem_ofEvents hop; rfl
theorem Inv.go (h : Inv P φ Fin n k D l gs u t q H) {i : Nat} {x y : X} (hi : l[i]? = some (some x)) (d : Nat) {es : Array Event} (fn : FuncId) (pos : String) (hd : Does (H i) y.1 (u.at d) y.2.2) (hes : ∀ e ∈ es, EvO y.1 e) (hrun : y.2.1.status = .running) :
  Inv P φ Fin n k D (l.set i (some y)) (gs.setIfInBounds i y.2.1) y.2.2 (t ++ MemOp.ofEvents i fn pos es) q (upd H i y.1) := by
 have hlt := h.lt hi
 have hac := h.ac hi
 have hall : l.length = gs.size := h.len
 have hsz : u.heap.size <= y.2.2.heap.size := hd.size
 have hmine : ∀ b, y.1.mine b -> (H i).mine b \/ (u.heap.size <= b /\ b < y.2.2.heap.size) := fun b hb => (hd.mine b).1 hb
 have hoth : ∀ j, Ac (Kid φ k D) j -> i ≠ j -> Off (H j) u y.2.2 := fun j hj hij => (Off.at (H j) u d).trans (off_other h.apt hac hj hij hd)
 have hA' : Apt (Kid φ k D) (upd H i y.1) := by
  refine ⟨fun a b c ha hb hab hm hm' => ?_, fun a b c ha hb hm hm' => ?_⟩
  ·by_cases e1 : a = i
   ·subst e1
    rw [upd_same] at hm
    rw [upd_ne H _ (Ne.symm hab)] at hm'
    rcases hmine c hm with h1 | h1
    ·exact h.apt.mm a b c ha hb hab h1 hm'
    ·have := (h.low b c hb (.inl hm')).1; omega
   ·rw [upd_ne H _ e1] at hm
    by_cases e2 : b = i
    ·subst e2
     rw [upd_same] at hm'
     rcases hmine c hm' with h1 | h1
     ·exact h.apt.mm a b c ha hb hab hm h1
     ·have := (h.low a c ha (.inl hm)).1; omega
    ·rw [upd_ne H _ e2] at hm'
     exact h.apt.mm a b c ha hb hab hm hm'
  ·have hsh : (upd H i y.1 b).sh = (H b).sh := by
    by_cases e2 : b = i
    ·subst e2; rw [upd_same, hd.sh]
    ·rw [upd_ne H _ e2]
   rw [hsh] at hm'
   by_cases e1 : a = i
   ·subst e1
    rw [upd_same] at hm
    rcases hmine c hm with h1 | h1
    ·exact h.apt.ms a b c ha hb h1 hm'
    ·have := (h.low b c hb (.inr hm')).1; omega
   ·rw [upd_ne H _ e1] at hm
    exact h.apt.ms a b c ha hb hm hm'
 have hlow' : ∀ j b, Ac (Kid φ k D) j -> (upd H i y.1 j).mine b \/ (upd H i y.1 j).sh b -> b < y.2.2.heap.size /\ b ≠ φ.chA /\ b ≠ φ.chB := by
  intro j b hj hb
  have hold : (H j).mine b \/ (H j).sh b -> b < y.2.2.heap.size /\ b ≠ φ.chA /\ b ≠ φ.chB := fun hb => by
   obtain ⟨h1, h2, h3⟩ := h.low j b hj hb
   exact ⟨Nat.lt_of_lt_of_le h1 hsz, h2, h3⟩
  by_cases e : j = i
  ·subst e
   rw [upd_same, hd.sh] at hb
   rcases hb with hb | hb
   ·rcases hmine b hb with h1 | h1
    ·exact hold (.inl h1)
    ·obtain ⟨s, s', c1, c2⟩ := h.chans
     have l1 := (aS.1 c1).1
     have l2 := (aS.1 c2).1
     exact ⟨h1.2, by omega, by omega⟩
   ·exact hold (.inr hb)
  ·rw [upd_ne H _ e] at hb
   exact hold hb
 have hset : ∀ j, j ≠ i -> (gs.setIfInBounds i y.2.1)[j]? = gs[j]? := fun j hj => Array.getElem?_setIfInBounds_ne (Ne.symm hj)
 have hls : ∀ j, j ≠ i -> (l.set i (some y))[j]? = l[j]? := fun j hj => List.getElem?_set_ne (Ne.symm hj)
 have hli : (l.set i (some y))[i]? = some (some y) := List.getElem?_set_self (by rw [hall]; exact hlt)
 have hdeaf : ∀ j, j ≠ i -> Deaf (t ++ MemOp.ofEvents i fn pos es) j = Deaf t j := fun j hj => Deaf_other t (g := j) (g' := i) (Ne.symm hj) _ g_ofEvents
 refine ⟨h.cnt, h.kle, h.dnd, h.dlt, h.dpos, by simpa using hall, by simpa using h.size, fun j z hj => ?_, fun j z h0 hj => ?_, fun j g h0 hj hg => ?_, fun hj => ?_, ?_, hA', hlow', fun j b hj hb => ?_, ?_, fun j hj => ?_, ?_⟩
 ·by_cases e : j = i
  ·subst e
   rw [hli, oI, oI] at hj
   subst hj
   exact ⟨by simp [hlt], by rw [upd_same], Off.refl _ _, hrun⟩
  ·rw [hls j e] at hj
   obtain ⟨h1, h2, h3, h4⟩ := h.priv j z hj
   refine ⟨by rw [hset j e]; exact h1, by rw [upd_ne H _ e]; exact h2, ?_, h4⟩
   rw [upd_ne H _ e]
   exact h3.trans (hoth j (h.ac hj) (Ne.symm e))
 ·by_cases e : j = i
  ·subst e; exact h.kidp j x h0 hi
  ·rw [hls j e] at hj; exact h.kidp j z h0 hj
 ·have e : j ≠ i := fun e => by subst e; rw [hli] at hj; cases hj
  rw [hls j e] at hj
  rw [hset j e] at hg
  rw [hdeaf j e]
  exact h.rest j g h0 hj hg
 ·have e : 0 ≠ i := fun e => by subst e; rw [hli] at hj; cases hj
  rw [hls 0 e] at hj
  obtain ⟨g₂, n', h1, h2, h3, h4, h5⟩ := h.main hj
  refine ⟨g₂, n', by rw [hset 0 e]; exact h1, h2, h3, fun m hm hD u' ho => ?_, fun j hj => ?_⟩
  ·rw [upd_ne H _ e] at ho ⊢
   exact h4 m hm hD u' ((hoth 0 (.inl rfl) (Ne.symm e)).trans ho)
  ·by_cases e2 : j = i
   ·subst e2; exact ⟨y, hli⟩
   ·rw [hls j e2]; exact h5 j hj
 ·refine Tr.app (h.tr.grow hsz (H' := upd H i y.1) (fun j b hb => ?_) (fun j b hb1 hb => ?_) (fun j b hb => ?_) (fun j b _ hb => ?_)) hA' hac g_ofEvents (by rw [upd_same]; exact opO_of_evO hes fun b hb => (hlow' i b hac (by rw [upd_same]; exact hb)).1) ?_
  ·by_cases e : j = i
   ·subst e; rw [upd_same]; exact (hd.mine b).2 (.inl hb)
   ·rw [upd_ne H _ e]; exact hb
  ·by_cases e : j = i
   ·subst e
    rw [upd_same] at hb
    exact (hmine b hb).resolve_right fun x => by omega
   ·rw [upd_ne H _ e] at hb; exact hb
  ·by_cases e : j = i
   ·subst e; rw [upd_same, hd.sh]; exact hb
   ·rw [upd_ne H _ e]; exact hb
  ·by_cases e : j = i
   ·subst e; rw [upd_same, hd.sh] at hb; exact hb
   ·rw [upd_ne H _ e] at hb; exact hb
  ·rw [Deaf_own, deafBehind_still (still_of_evO hes)]
   exact h.tr.hears i hac
 ·by_cases e : j = i
  ·subst e
   rw [upd_same] at hb
   rcases hmine b hb with h1 | h1
   ·exact h.base j b hj h1
   ·exact Nat.le_trans h.ext.size h1.1
  ·rw [upd_ne H _ e] at hb
   exact h.base j b hj hb
 ·refine ⟨Nat.le_trans h.ext.size hsz, fun b hb => ?_, hd.same.1.trans h.ext.same.1, hd.same.2.1.trans h.ext.same.2.1, hd.same.2.2.trans h.ext.same.2.2⟩
  rw [hd.keep b (Nat.lt_of_lt_of_le hb h.ext.size) fun hm => by have := h.base i b hac hm; omega]
  exact h.ext.keep b hb
 ·have hj' : gs.size <= j := by simpa using hj
  rw [hdeaf j (by omega)]
  exact h.above j hj'
 ·obtain ⟨s, s', c1, c2⟩ := h.chans
  refine ⟨s, s', ?_, ?_⟩
  ·rw [hd.keep φ.chA (aS.1 c1).1 fun hm => (h.low i _ hac (.inl hm)).2.1 rfl]; exact c1
  ·rw [hd.keep φ.chB (aS.1 c2).1 fun hm => (h.low i _ hac (.inl hm)).2.2 rfl]; exact c2
end
end Go.Tp
