/- A part of the proof of RentMoreTrunks; no conditions of its own. -/
import Derived.Test.YtaikibfkggglgaaDoorX10
import Derived.Conc.PipeWords
import Derived.Conc.EventLaws2
import Derived.Conc.CompanyWords
import Derived.Great.Frames
import Derived.Test.YtaikibfkggglgaaDoorX01
set_option maxRecDepth 100000
open Go renaming undef → ud
open Nat renaming le_refl → nR
open Go.Lib renaming hid → lH
open Go.RowKit.Below renaming refl → bR
open Go.Proofs.Tryd renaming prog → tP
open Go.World renaming cell?_setCell_other → wO
open Nat renaming lt_of_lt_of_le → nL
namespace Go.Tp
open Go.Conc Go.RowKit
section
variable {P : Program} {mn : Bool} {Stop : Hold -> Goroutine -> World -> Prop} {H : Hold} {u : World} {b : Frame} {a : Act} {k : List Item} {cs : List Frame} {ops : Array Oper} {i : Nat} {rest : List Nat} {o : Oper}
theorem rm_pure (ho : ops[i]? = some o) (hw : Region.wanted o (yielded ops a.tmps) = true) (hk : b.kind ≠ .early) (v : Value)
  (hr : ∀ u', Off H u u' -> (execOp a.eval o).run P u' = .ok (.value v) u') (he : ∀ u', Off H u u' -> ∀ e ∈ (execOp a.eval o).events P u' #[], EvO H e)
  (h : RunM P mn Stop (H, G (b.at (a.put o.dst v) (.inRegion ops rest :: k)) cs, u)) : RunM P mn Stop (H, G (b.at a (.inRegion ops (i :: rest) :: k)) cs, u) :=
 rm_op ho hw hk fun u' ho' => ⟨v, H, u', hr u' ho', .still H u', fun e hm => he u' ho' e (mem_listed hm), h.rely ho'⟩
theorem rm_mute (ho : ops[i]? = some o) (hw : Region.wanted o (yielded ops a.tmps) = true) (hk : b.kind ≠ .early) (v : Value)
  (hr : ∀ u', (execOp a.eval o).run P u' = .ok (.value v) u') (he : ∀ u', (execOp a.eval o).events P u' #[] = #[])
  (h : RunM P mn Stop (H, G (b.at (a.put o.dst v) (.inRegion ops rest :: k)) cs, u)) : RunM P mn Stop (H, G (b.at a (.inRegion ops (i :: rest) :: k)) cs, u) :=
 rm_pure ho hw hk v (fun u' _ => hr u') (fun u' _ e hm => by rw [he] at hm; simp at hm) h
theorem rm_alloc (ho : ops[i]? = some o) (hw : Region.wanted o (yielded ops a.tmps) = true) (hk : b.kind ≠ .early) (v : Nat -> Value) (x : Obj)
  (hr : ∀ u', (execOp a.eval o).run P u' = .ok (.value (v u'.heap.size)) (u'.alloc x)) (he : ∀ u', (execOp a.eval o).events P u' #[] = #[])
  (h : ∀ u', Off H u u' -> RunM P mn Stop (H.more u' (u'.alloc x), G (b.at (a.put o.dst (v u'.heap.size)) (.inRegion ops rest :: k)) cs, u'.alloc x)) : RunM P mn Stop (H, G (b.at a (.inRegion ops (i :: rest) :: k)) cs, u) :=
 rm_op ho hw hk fun u' ho' => ⟨_, _, _, hr u', .alloc H u' x, fun e hm => by have := mem_listed hm; rw [he] at this; simp at this, h u' ho'⟩
theorem rm_skipOp (ho : ops[i]? = some o) (hw : Region.wanted o (yielded ops a.tmps) = true) (hk : b.kind ≠ .early)
  (h : ∀ u', Off H u u' -> ∃ H1 u1, (execOp a.eval o).run P u' = .ok .skip u1 /\ Does H H1 u' u1 /\ (∀ e ∈ (execOp a.eval o).events P u' #[], EvO H1 e) /\ RunM P mn Stop (H1, G (b.at (a.put o.dst ud) (.inRegion ops rest :: k)) cs, u1)) :
  RunM P mn Stop (H, G (b.at a (.inRegion ops (i :: rest) :: k)) cs, u) :=
 RunM.step' rfl fun u' ho' => by
  obtain ⟨H1, u1, hr, hd, he, hn⟩ := h u' ho'
  exact ⟨(H1, _, u1), hn, _, stepG_none ho hw hk hr, hd, fun e hm => he e (mem_listed hm)⟩
theorem rm_start {φ : Ph} {h : Nat} {K : X -> Prop} (hS : Stop = AtGo P φ h K) (ho : ops[i]? = some o) (hw : Region.wanted o (yielded ops a.tmps) = true) (hk : b.kind ≠ .early) (d : Deferred) {f : Fn} {c : Array Value} (hd : d.target = .fn f c)
  (hr : ∀ u', (execOp a.eval o).run P u' = .ok (.spawn d) u') (he : ∀ u', (execOp a.eval o).events P u' #[] = #[])
  (hkid : ∀ u', Off H u u' -> RunM P false (AtSend P φ h) (⟨fun _ => False, fun b => H.mine b \/ H.sh b⟩, born P d, u'))
  (hn : ∀ u', Off H u u' -> K (⟨fun _ => False, fun b => H.mine b \/ H.sh b⟩, G (b.at (a.put o.dst ud) (.inRegion ops rest :: k)) cs, u')) :
  RunM P true Stop (H, G (b.at a (.inRegion ops (i :: rest) :: k)) cs, u) := by
 subst hS
 refine .stop rfl fun u' ho' => ⟨_, _, (stepG_spawn ho hw hk (hr u') hd).trans ?_, hkid u' ho', hn u' ho'⟩
 rw [listed_nil (he u')]
theorem rm_select {φ : Ph} {K : Nat -> X -> Prop} (hS : Stop = AtSel P φ K) (ho : ops[i]? = some o) (hw : Region.wanted o (yielded ops a.tmps) = true) (hk : b.kind ≠ .early)
  (hr : ∀ u', (execOp a.eval o).run P u' = .ok (.comm φ.cases true .select) u') (he : ∀ u', (execOp a.eval o).events P u' #[] = #[])
  (hn : ∀ h, h < φ.Hn -> ∀ u', Off H u u' -> K h (H, G (b.at (a.put o.dst (commResult φ.cases .select (if φ.isA h then 0 else 1) (φ.val h) true)) (.inRegion ops rest :: k)) cs, u')) :
  RunM P true Stop (H, G (b.at a (.inRegion ops (i :: rest) :: k)) cs, u) := by
 subst hS
 refine .stop rfl fun u' ho' => ⟨G (b.at a (.inRegion ops (i :: rest) :: k)) cs, ?_, fun h hh u2 ho2 => ?_⟩
 ·rw [stepG_comm ho hw hk (hr u'), listed_nil (he u')]
 ·have hfin : ∀ v, (b.at a (.inRegion ops (i :: rest) :: k)).finish v = b.at (a.put o.dst v) (.inRegion ops rest :: k) := fun v => by rw [Frame.finish_at, ho]; rfl
  have := hn h hh u2 (ho'.trans ho2)
  unfold Goroutine.finishComm G
  dsimp only
  rw [hfin]
  exact this
structure Put (a a' : Act) (d : Nat) (v : Value) : Prop where
 size : a'.tmps.size = a.tmps.size
 defers : a'.defers = a.defers
 same : a'.tmps[d]?.getD ud = v
 other : ∀ j, j ≠ d -> a'.tmps[j]?.getD ud = a.tmps[j]?.getD ud
theorem ev (a : Act) (i : Nat) : a.eval (.tmp i) = a.tmps[i]?.getD ud := by simp [Act.eval]
theorem put_put (a : Act) {d : Nat} (v : Value) (hd : d < a.tmps.size) : Put a (a.put (some d) v) d v :=
 ⟨by simp [Act.put], rfl, by rw [<- ev]; exact Act.eval_put_same a d v hd, fun j hj => by rw [<- ev, <- ev]; exact Act.eval_put_ne a d j v (Ne.symm hj)⟩
theorem rm_pureA {d : Nat} (ho : ops[i]? = some o) (hw : Region.wanted o (yielded ops a.tmps) = true) (hk : b.kind ≠ .early) (hdst : o.dst = some d) (hd : d < a.tmps.size) (v : Value)
  (hr : ∀ u', Off H u u' -> (execOp a.eval o).run P u' = .ok (.value v) u') (he : ∀ u', Off H u u' -> ∀ e ∈ (execOp a.eval o).events P u' #[], EvO H e)
  (h : ∀ a', Put a a' d v -> RunM P mn Stop (H, G (b.at a' (.inRegion ops rest :: k)) cs, u)) : RunM P mn Stop (H, G (b.at a (.inRegion ops (i :: rest) :: k)) cs, u) :=
 rm_pure ho hw hk v hr he (by rw [hdst]; exact h _ (put_put a v hd))
theorem rm_muteA {d : Nat} (ho : ops[i]? = some o) (hw : Region.wanted o (yielded ops a.tmps) = true) (hk : b.kind ≠ .early) (hdst : o.dst = some d) (hd : d < a.tmps.size) (v : Value)
  (hr : ∀ u', (execOp a.eval o).run P u' = .ok (.value v) u') (he : ∀ u', (execOp a.eval o).events P u' #[] = #[])
  (h : ∀ a', Put a a' d v -> RunM P mn Stop (H, G (b.at a' (.inRegion ops rest :: k)) cs, u)) : RunM P mn Stop (H, G (b.at a (.inRegion ops (i :: rest) :: k)) cs, u) :=
 rm_mute ho hw hk v hr he (by rw [hdst]; exact h _ (put_put a v hd))
theorem rm_allocA {d : Nat} (ho : ops[i]? = some o) (hw : Region.wanted o (yielded ops a.tmps) = true) (hk : b.kind ≠ .early) (hdst : o.dst = some d) (hd : d < a.tmps.size) (v : Nat -> Value) (x : Obj)
  (hr : ∀ u', (execOp a.eval o).run P u' = .ok (.value (v u'.heap.size)) (u'.alloc x)) (he : ∀ u', (execOp a.eval o).events P u' #[] = #[])
  (h : ∀ u', Off H u u' -> ∀ a', Put a a' d (v u'.heap.size) -> RunM P mn Stop (H.more u' (u'.alloc x), G (b.at a' (.inRegion ops rest :: k)) cs, u'.alloc x)) : RunM P mn Stop (H, G (b.at a (.inRegion ops (i :: rest) :: k)) cs, u) :=
 rm_alloc ho hw hk v x hr he fun u' ho' => by rw [hdst]; exact h u' ho' _ (put_put a _ hd)
theorem rm_selectA {d : Nat} {φ : Ph} {K : Nat -> X -> Prop} (hS : Stop = AtSel P φ K) (ho : ops[i]? = some o) (hw : Region.wanted o (yielded ops a.tmps) = true) (hk : b.kind ≠ .early) (hdst : o.dst = some d) (hd : d < a.tmps.size)
  (hr : ∀ u', (execOp a.eval o).run P u' = .ok (.comm φ.cases true .select) u') (he : ∀ u', (execOp a.eval o).events P u' #[] = #[])
  (hn : ∀ h, h < φ.Hn -> ∀ u', Off H u u' -> ∀ a', Put a a' d (commResult φ.cases .select (if φ.isA h then 0 else 1) (φ.val h) true) -> K h (H, G (b.at a' (.inRegion ops rest :: k)) cs, u')) :
  RunM P true Stop (H, G (b.at a (.inRegion ops (i :: rest) :: k)) cs, u) :=
 rm_select hS ho hw hk hr he fun h hh u' ho' => by rw [hdst]; exact hn h hh u' ho' _ (put_put a _ hd)
theorem rm_storeA (ho : ops[i]? = some o) (hw : Region.wanted o (yielded ops a.tmps) = true) (hk : b.kind ≠ .early) (hdst : o.dst = none)
  (h : ∀ u', Off H u u' -> ∃ H1 u1, (execOp a.eval o).run P u' = .ok .skip u1 /\ Does H H1 u' u1 /\ (∀ e ∈ (execOp a.eval o).events P u' #[], EvO H1 e) /\ RunM P mn Stop (H1, G (b.at a (.inRegion ops rest :: k)) cs, u1)) :
  RunM P mn Stop (H, G (b.at a (.inRegion ops (i :: rest) :: k)) cs, u) :=
 rm_skipOp ho hw hk fun u' ho' => by rw [hdst]; exact h u' ho'
theorem off_row {u' : World} {n : Nat} {x : Obj} (ho : Off H u u') (hm : H.mine n \/ H.sh n) (hc : u.heap[n]? = some x) : u'.heap[n]? = some x := by
 rw [ho.keep n (Array.getElem?_eq_some_iff.1 hc).1 hm]; exact hc
end
end Go.Tp
namespace Go.Proofs.YtaikibfkggglgaaDoor
open Go.RowKit Go.Rent
structure LdR (w : World) (la pa : Option Addr) (B : Bk) (lc pc : Nat) (hours towns : Value) (f : Nat -> Int) (wr : World) : Prop where
 below : Below w.heap.size w wr
 size : w.heap.size + 3 <= wr.heap.size
 b0 : wr.cell? ⟨w.heap.size, 0, none⟩ = some hours
 b1 : wr.cell? ⟨w.heap.size, 1, none⟩ = some towns
 b2 : wr.cell? ⟨w.heap.size, 2, none⟩ = some (.slice la B.links.length lc)
 b3 : wr.cell? ⟨w.heap.size, 3, none⟩ = some (.slice pa B.pairs.length pc)
 res : ∀ j, j < 6 -> (∃ v, wr.cell? ⟨w.heap.size + 1, j, none⟩ = some v) /\ wr.frozen? ⟨w.heap.size + 1, j, none⟩ = false
 out : ∀ j, j < 6 -> wr.cell? ⟨w.heap.size + 2, j, none⟩ = some (.int .i64 (f j)) /\ wr.frozen? ⟨w.heap.size + 2, j, none⟩ = false
theorem LdR.step {w : World} {la pa : Option Addr} {B : Bk} {lc pc : Nat} {hours towns : Value} {f : Nat -> Int} {wr w2 : World} (h : LdR w la pa B lc pc hours towns f wr) (hb : Below wr.heap.size wr w2) : LdR w la pa B lc pc hours towns f w2 := by
 have hs := h.size
 obtain ⟨hc, hf⟩ := bcell hb
 refine ⟨h.below.trans (hb.mono (by omega)), Nat.le_trans h.size hb.size, ?_, ?_, ?_, ?_, fun j hj => ?_, fun j hj => ?_⟩
 ·rw [hc _ _ (by omega)]; exact h.b0
 ·rw [hc _ _ (by omega)]; exact h.b1
 ·rw [hc _ _ (by omega)]; exact h.b2
 ·rw [hc _ _ (by omega)]; exact h.b3
 ·rw [hc _ _ (by omega), hf _ _ (by omega)]; exact h.res j hj
 ·rw [hc _ _ (by omega), hf _ _ (by omega)]; exact h.out j hj
theorem LdR.set {w : World} {la pa : Option Addr} {B : Bk} {lc pc : Nat} {hours towns : Value} {f : Nat -> Int} {wr : World} (h : LdR w la pa B lc pc hours towns f wr) {i : Nat} (hi : i < 6) (v : Int) : LdR w la pa B lc pc hours towns (fup f i v) (wr.setCell ⟨w.heap.size + 2, i, none⟩ (.int .i64 v)) := by
 have hs := h.size
 have hne : ∀ b o, b ≠ w.heap.size + 2 -> (wr.setCell ⟨w.heap.size + 2, i, none⟩ (.int .i64 v)).cell? ⟨b, o, none⟩ = wr.cell? ⟨b, o, none⟩ := fun b o hb => wO _ _ _ _ (by intro e; cases e; exact hb rfl)
 refine ⟨h.below.trans ((bR _ _).setCell (by simp) _), by simpa using h.size, ?_, ?_, ?_, ?_, fun j hj => ?_, fun j hj => ?_⟩
 ·rw [hne _ _ (by omega)]; exact h.b0
 ·rw [hne _ _ (by omega)]; exact h.b1
 ·rw [hne _ _ (by omega)]; exact h.b2
 ·rw [hne _ _ (by omega)]; exact h.b3
 ·rw [hne _ _ (by omega), World.frozen?_setCell]; exact h.res j hj
 ·rw [World.frozen?_setCell]
  refine ⟨?_, (h.out j hj).2⟩
  by_cases e : j = i
  ·subst e
   rw [fup_same]
   exact World.cell?_setCell_same _ _ _ (h.out j hj).1
  ·rw [fup_ne f v e, wO _ _ _ _ (by intro e'; cases e'; exact e rfl)]
   exact (h.out j hj).1
set_option maxHeartbeats 1600000 in
theorem c71_in (V : BkV) (B : Bk) (hB : B.Fine) (tb tofs tcap : Nat) (T c : Nat -> Int) (p1 p2 p3 : Value) (w : World) (hat : BkAt w V B)
  (hT : ∀ k, k < B.links.length -> w.cell? ⟨tb, tofs + k, none⟩ = some (.int .i64 (T k))) (hT0 : ∀ k, 0 <= T k) (hc : ∀ i, i < B.pairs.length -> 0 <= c i /\ c i <= 5)
  (hcl : ∀ (i : Nat) (w1 : World), i < B.pairs.length -> Below w.heap.size w w1 -> Calls tP 93 #[.int .i64 (i : Int), p1, p2, p3] w1 fun e w' => e = .returned (.int .i64 (c i)) /\ Below w1.heap.size w1 w') :
  Calls tP 71 #[V.val B, .slice (some ⟨tb, tofs, none⟩) B.links.length tcap, .func (.func 93) #[] #[p1, p2, p3]] w
   fun e w' => e = .returned (.agg #[.int .i64 (B.load T c 0), .int .i64 (B.load T c 1), .int .i64 (B.load T c 2), .int .i64 (B.load T c 3), .int .i64 (B.load T c 4), .int .i64 (B.load T c 5)]) /\ Below w.heap.size w w' := by
 obtain ⟨ta, la, pa, tc, lc, pc⟩ := V
 have hl := hB.links
 have ht := hB.towns
 have hp := hB.pairs
 unfold Bk.spokes at hl
 go_enter Tryd.func71, Tryd.ntmps71
 go_wp2_with fail
 go_loopw [16] (fun i wr => ∃ k : Nat, k <= B.pairs.length /\ i = .int .i64 (k : Int) /\ LdR w la pa B lc pc (.int .i64 B.hours) (.slice ta B.towns.length tc) (B.loadTo T c k) wr) (fun i _ => B.pairs.length - (intOf i).toNat)
 case atStart =>
  refine ⟨0, Nat.zero_le _, rfl, ⟨((((bR _ _).alloc (nR _) _).alloc (by simp) _).alloc (by simp; omega) _), by simp, by go_simp, by go_simp, by go_simp, by go_simp, fun j hj => ?_, fun j hj => ?_⟩⟩
  ·match j, hj with
   | 0, _ | 1, _ | 2, _ | 3, _ | 4, _ | 5, _ => exact ⟨⟨_, by go_simp; rfl⟩, by go_simp⟩
  ·match j, hj with
   | 0, _ | 1, _ | 2, _ | 3, _ | 4, _ | 5, _ => exact ⟨by go_simp; rfl, by go_simp⟩
 case round =>
  obtain ⟨k, hk, rfl, hR⟩ := hrel
  have hy3 := hR.b3
  by_cases hlt : k < B.pairs.length
  ·have hL : B.pairs[k]? = some B.pairs[k] := List.getElem?_eq_getElem hlt
   obtain ⟨he1, he2, he3⟩ := hB.ends k hlt
   have hpo : B.pone k = B.pairs[k].one := by unfold Bk.pone; rw [hL]; rfl
   have hpt : B.ptwo k = B.pairs[k].two := by unfold Bk.ptwo; rw [hL]; rfl
   obtain ⟨pb, po, sa, sc, g1, g2, g3, g4, _⟩ := (hat.below hR.below (nR _)).pairs _ _ hL
   simp only at g1
   subst g1
   rw [<- hpo] at g2
   rw [<- hpt] at g3
   generalize B.pairs[k].calls.length = cn at g4
   have hs := hR.size
   go_wp2_with fail
   refine (hcl k _ hlt (hR.below.trans (((bR _ _).alloc (nR _) _).mono (by omega)))).mono ?_
   rintro e w2 ⟨rfl, hb2⟩
   have hx0 : w2.cell? ⟨wr.heap.size, 0, none⟩ = some (.int .i64 (B.pone k)) := by rw [(bcell hb2).1 _ _ (by simp)]; go_simp
   have hx1 : w2.cell? ⟨wr.heap.size, 1, none⟩ = some (.int .i64 (B.ptwo k)) := by rw [(bcell hb2).1 _ _ (by simp)]; go_simp
   have hs2 : wr.heap.size + 1 <= w2.heap.size := by have := hb2.size; simpa using this
   have hR2 := hR.step (((bR _ _).alloc (nR _) _).trans (hb2.mono (by simp)))
   have hf : B.loadTo T c (k + 1) = B.go T (c k) (B.pone k) (B.ptwo k) (B.loadTo T c k) := rfl
   have hfb := loadTo_bd B hB T c hT0 hc k (by omega)
   obtain ⟨hc0, hc1⟩ := hc k hlt
   generalize B.loadTo T c k = f at *
   generalize B.pone k = a at *
   generalize B.ptwo k = b at *
   generalize c k = n at *
   have Hf := lH hf
   have Hfb := lH hfb
   have HT := lH hT
   have HR2 := lH hR2
   clear hf hfb hT hR2 hR hb2 g2 g3 g4 hL hpo hpt hcl hy3
   have hz0 : w.heap.size < w2.heap.size := by omega
   have hz1 : w.heap.size + 1 < w2.heap.size := by omega
   have hz2 : w.heap.size + 2 < w2.heap.size := by omega
   have hb6 : b.toNat - 1 < 6 := by omega
   have hbt : (b - 1).toNat = b.toNat - 1 := by omega
   have Hbt := lH hbt
   clear hbt
   obtain ⟨hbo1, hbo2⟩ : w2.cell? ⟨w.heap.size + 1 + 1, b.toNat - 1, none⟩ = some (.int .i64 (f (b.toNat - 1))) /\ w2.frozen? ⟨w.heap.size + 1 + 1, b.toNat - 1, none⟩ = false := HR2.out.out (b.toNat - 1) hb6
   obtain ⟨hbb0, hbb1⟩ : 0 <= f (b.toNat - 1) /\ f (b.toNat - 1) <= 30 := by have := Hfb.out (b.toNat - 1); omega
   by_cases ha : a = 0
   ·subst ha
    go_wp2
    go_roundw
    case rel => exact ⟨k + 1, by omega, by go_num, by
     rw [Hf.out]
     unfold Bk.go
     rw [if_pos rfl, Hbt.out]
     exact HR2.out.set hb6 _⟩
    case measure => simp [intOf]; omega
   ·have ha1 : 1 <= a := by omega
    have hx10 := HR2.out.b0
    have hx11 := HR2.out.b1
    have hx12 := HR2.out.b2
    have hx13 := HR2.out.b3
    have hBat : BkAt w2 ⟨ta, la, some ⟨pb, po, none⟩, tc, lc, pc⟩ B := hat.below HR2.out.below (nR _)
    have HBat := lH hBat
    clear hBat hat
    go_wp2_with fail
    refine (c102 ⟨ta, la, some ⟨pb, po, none⟩, tc, lc, pc⟩ B hB a b _ HBat.out).mono ?_
    rintro e w3 ⟨rfl, hb3⟩
    have hR3 := HR2.out.step hb3
    have hy0 : w3.cell? ⟨wr.heap.size, 0, none⟩ = some (.int .i64 a) := by rw [(bcell hb3).1 _ _ (by omega)]; exact hx0
    have hy1 : w3.cell? ⟨wr.heap.size, 1, none⟩ = some (.int .i64 b) := by rw [(bcell hb3).1 _ _ (by omega)]; exact hx1
    have hs3 := hb3.size
    clear hx10 hx11 hx12 hx13 hbo1 hbo2 hx0 hx1 hb3 HBat HR2
    have HR3 := lH hR3
    clear hR3
    have ha6 : a.toNat - 1 < 6 := by omega
    have hat1 : (a - 1).toNat = a.toNat - 1 := by omega
    have Hat := lH hat1
    clear hat1
    obtain ⟨hbo1, hbo2⟩ : w3.cell? ⟨w.heap.size + 1 + 1, b.toNat - 1, none⟩ = some (.int .i64 (f (b.toNat - 1))) /\ w3.frozen? ⟨w.heap.size + 1 + 1, b.toNat - 1, none⟩ = false := HR3.out.out (b.toNat - 1) hb6
    obtain ⟨hao1, hao2⟩ : w3.cell? ⟨w.heap.size + 1 + 1, a.toNat - 1, none⟩ = some (.int .i64 (f (a.toNat - 1))) /\ w3.frozen? ⟨w.heap.size + 1 + 1, a.toNat - 1, none⟩ = false := HR3.out.out (a.toNat - 1) ha6
    obtain ⟨haa0, haa1⟩ : 0 <= f (a.toNat - 1) /\ f (a.toNat - 1) <= 30 := by have := Hfb.out (a.toNat - 1); omega
    have hab : ¬ a.toNat - 1 = b.toNat - 1 := by omega
    have hba : ¬ b.toNat - 1 = a.toNat - 1 := by omega
    have hdb := direct_bd B hB a b
    unfold Bk.go at Hf
    rw [if_neg ha] at Hf
    unfold Bk.spokes at hdb
    generalize B.direct a b = dv at *
    rcases hdb with hdv | ⟨hd0, hd1⟩
    ·subst hdv
     go_wp2_with fail
     go_roundw
     case rel => exact ⟨k + 1, by omega, by go_num, by
      rw [Hf.out, Hbt.out, Hat.out, if_neg (by decide), if_neg (by decide), fup_ne _ _ hba, Int.sub_zero]
      exact (HR3.out.set ha6 _).set hb6 _⟩
     case measure => simp [intOf]; omega
    ·obtain ⟨kd, rfl⟩ := Int.eq_ofNat_of_zero_le (show 0 <= dv by omega)
     have hkd6 : kd < 6 := by omega
     have hka : ¬ kd = a.toNat - 1 := by omega
     have hkb : ¬ kd = b.toNat - 1 := by omega
     have hak : ¬ a.toNat - 1 = kd := by omega
     have hbk : ¬ b.toNat - 1 = kd := by omega
     obtain ⟨hko1, hko2⟩ : w3.cell? ⟨w.heap.size + 1 + 1, kd, none⟩ = some (.int .i64 (f kd)) /\ w3.frozen? ⟨w.heap.size + 1 + 1, kd, none⟩ = false := HR3.out.out kd hkd6
     have htk : w3.cell? ⟨tb, tofs + kd, none⟩ = some (.int .i64 (T kd)) := cell_below HR3.out.below (HT.out kd (by omega)) (nR _)
     have hTk0 := hT0 kd
     by_cases hmin : T kd < n
     ·go_wp2_with fail
      go_roundw
      case rel => exact ⟨k + 1, by omega, by go_num, by
       rw [Hf.out, Hbt.out, Hat.out, if_pos (by omega), if_pos (by omega), Int.toNat_natCast, fup_ne _ _ hba, fup_ne _ _ hak, fup_ne _ _ hbk, show min n (T kd) = T kd by omega]
       exact ((HR3.out.set hkd6 _).set ha6 _).set hb6 _⟩
      case measure => simp [intOf]; omega
     ·go_wp2_with fail
      go_roundw
      case rel => exact ⟨k + 1, by omega, by go_num, by
       rw [Hf.out, Hbt.out, Hat.out, if_pos (by omega), if_pos (by omega), Int.toNat_natCast, fup_ne _ _ hba, fup_ne _ _ hak, fup_ne _ _ hbk, show min n (T kd) = n by omega, Int.sub_self, Int.add_zero, Int.add_zero]
       exact ((HR3.out.set hkd6 _).set ha6 _).set hb6 _⟩
      case measure => simp [intOf]; omega
  ·have hke : k = B.pairs.length := by omega
   have hbw := hR.below
   have hs := hR.size
   have ho0 : wr.cell? ⟨w.heap.size + 1 + 1, 0, none⟩ = some (.int .i64 (B.loadTo T c k 0)) := (hR.out 0 (by omega)).1
   obtain ⟨⟨v0, hr0⟩, hq0⟩ := hR.res 0 (by omega)
   have ho1 : wr.cell? ⟨w.heap.size + 1 + 1, 1, none⟩ = some (.int .i64 (B.loadTo T c k 1)) := (hR.out 1 (by omega)).1
   obtain ⟨⟨v1, hr1⟩, hq1⟩ := hR.res 1 (by omega)
   have ho2 : wr.cell? ⟨w.heap.size + 1 + 1, 2, none⟩ = some (.int .i64 (B.loadTo T c k 2)) := (hR.out 2 (by omega)).1
   obtain ⟨⟨v2, hr2⟩, hq2⟩ := hR.res 2 (by omega)
   have ho3 : wr.cell? ⟨w.heap.size + 1 + 1, 3, none⟩ = some (.int .i64 (B.loadTo T c k 3)) := (hR.out 3 (by omega)).1
   obtain ⟨⟨v3, hr3⟩, hq3⟩ := hR.res 3 (by omega)
   have ho4 : wr.cell? ⟨w.heap.size + 1 + 1, 4, none⟩ = some (.int .i64 (B.loadTo T c k 4)) := (hR.out 4 (by omega)).1
   obtain ⟨⟨v4, hr4⟩, hq4⟩ := hR.res 4 (by omega)
   have ho5 : wr.cell? ⟨w.heap.size + 1 + 1, 5, none⟩ = some (.int .i64 (B.loadTo T c k 5)) := (hR.out 5 (by omega)).1
   obtain ⟨⟨v5, hr5⟩, hq5⟩ := hR.res 5 (by omega)
   have Hke := lH hke
   clear hke
   have hN : ¬ w.heap.size + 1 = w.heap.size + 2 := by omega
   have hfin : B.load T c = B.loadTo T c k := by rw [Hke.out]; rfl
   have HF := lH hfin
   have Hbw := lH hbw
   clear hfin hbw hR hat hT hcl hc
   generalize B.loadTo T c k = f at *
   go_wp2
   refine bodyPost_ret (v := .agg #[.int .i64 (f 0), .int .i64 (f 1), .int .i64 (f 2), .int .i64 (f 3), .int .i64 (f 4), .int .i64 (f 5)]) (by simp [results, Tryd.results71, go_sem, hr0, hr1, hr2, hr3, hr4, hr5]) rfl ⟨by rw [HF.out], ?_⟩
   exact Hbw.out.trans ((((((bR _ _).setCell (by simp) _).setCell (by simp) _).setCell (by simp) _).setCell (by simp) _).setCell (by simp) _ |>.setCell (by simp) _)
structure TrAt (w : World) (tb tofs n : Nat) (T : Nat -> Int) : Prop where
 get : ∀ k, k < n -> w.cell? ⟨tb, tofs + k, none⟩ = some (.int .i64 (T k))
 pos : ∀ k, 0 <= T k
theorem TrAt.below {n' : Nat} {w w' : World} {tb tofs n : Nat} {T : Nat -> Int} (h : TrAt w tb tofs n T) (hb : Below n' w w') (hn : w.heap.size <= n') : TrAt w' tb tofs n T := ⟨fun k hk => cell_below hb (h.get k hk) hn, h.pos⟩
abbrev ldv (f : Nat -> Int) : Value := .agg #[.int .i64 (f 0), .int .i64 (f 1), .int .i64 (f 2), .int .i64 (f 3), .int .i64 (f 4), .int .i64 (f 5)]
set_option maxHeartbeats 1600000 in
theorem c57 (most : Bool) (V : BkV) (B : Bk) (hB : B.Fine) (h : Nat) (tb tofs tcap : Nat) (T : Nat -> Int) (w : World) (hat : BkAt w V B) (hT : TrAt w tb tofs B.links.length T) (hh : (h : Int) < B.hours) :
  Calls tP 57 #[V.val B, .int .i64 (h : Int), .slice (some ⟨tb, tofs, none⟩) B.links.length tcap, .agg #[.func (.func (exFn most)) #[] #[]]] w
   fun e w' => e = .returned (ldv (B.inn T most h)) /\ Below w.heap.size w w' := by
 obtain ⟨ta, la, pa, tc, lc, pc⟩ := V
 have Hat := lH hat
 have HT := lH hT
 clear hat hT
 generalize hf : B.inn T most h = f
 have Hf := lH hf
 clear hf
 generalize hx : exFn most = xf
 have Hx := lH hx
 clear hx
 go_enter Tryd.func57, Tryd.ntmps57
 go_wp2_with fail
 have hb4 : ∀ o1 o2 o3 o4 : Obj, Below w.heap.size w ((((w.alloc o1).alloc o2).alloc o3).alloc o4) := fun o1 o2 o3 o4 => (((((bR _ _).alloc (nR _) _).alloc (by simp) _).alloc (by simp <;> omega) _).alloc (by simp <;> omega) _)
 refine (c71_in ⟨ta, la, pa, tc, lc, pc⟩ B hB tb tofs tcap T (B.call most h) _ _ _ _ (Hat.out.below (hb4 _ _ _ _) (nR _)) (HT.out.below (hb4 _ _ _ _) (nR _)).get HT.out.pos (fun i _ => call_bd B hB most h i) (fun i w1 hi hb => ?_)).mono ?_
 ·have hbw := (hb4 _ _ _ _).trans (hb.mono (by simp <;> omega))
  have hsz := hb.size
  refine (c93 most (i : Int) ⟨ta, la, pa, tc, lc, pc⟩ B hB h (w.heap.size + 2) w.heap.size (w.heap.size + 1) w1 (Hat.out.below hbw (nR _)) (by omega) (by omega) hh ?_ ?_ ?_).mono fun e w' h => by simpa using h
  ·rw [Hx.out, (bcell hb).1 _ _ (by simp)]; go_simp
  ·rw [(bcell hb).1 _ _ (by simp <;> omega)]; go_simp
  ·rw [(bcell hb).1 _ _ (by simp <;> omega)]; go_simp
 ·rintro e w2 ⟨rfl, hb2⟩
  have hff : B.load T (B.call most h) = f := Hf.out
  rw [hff]
  have hrr : ∀ j, j < 6 -> (∃ v, w2.cell? ⟨w.heap.size + 3, j, none⟩ = some v) /\ w2.frozen? ⟨w.heap.size + 3, j, none⟩ = false := fun j hj => by
   rw [(bcell hb2).1 _ _ (by simp), (bcell hb2).2 _ _ (by simp)]
   match j, hj with
   | 0, _ | 1, _ | 2, _ | 3, _ | 4, _ | 5, _ => exact ⟨⟨_, by go_simp; rfl⟩, by go_simp⟩
  have hbw := (hb4 _ _ _ _).trans (hb2.mono (by simp <;> omega))
  obtain ⟨⟨v0, hr0⟩, hq0⟩ : (∃ v, w2.cell? ⟨w.heap.size + 1 + 1 + 1, 0, none⟩ = some v) /\ w2.frozen? ⟨w.heap.size + 1 + 1 + 1, 0, none⟩ = false := hrr 0 (by omega)
  obtain ⟨⟨v1, hr1⟩, hq1⟩ : (∃ v, w2.cell? ⟨w.heap.size + 1 + 1 + 1, 1, none⟩ = some v) /\ w2.frozen? ⟨w.heap.size + 1 + 1 + 1, 1, none⟩ = false := hrr 1 (by omega)
  obtain ⟨⟨v2, hr2⟩, hq2⟩ : (∃ v, w2.cell? ⟨w.heap.size + 1 + 1 + 1, 2, none⟩ = some v) /\ w2.frozen? ⟨w.heap.size + 1 + 1 + 1, 2, none⟩ = false := hrr 2 (by omega)
  obtain ⟨⟨v3, hr3⟩, hq3⟩ : (∃ v, w2.cell? ⟨w.heap.size + 1 + 1 + 1, 3, none⟩ = some v) /\ w2.frozen? ⟨w.heap.size + 1 + 1 + 1, 3, none⟩ = false := hrr 3 (by omega)
  obtain ⟨⟨v4, hr4⟩, hq4⟩ : (∃ v, w2.cell? ⟨w.heap.size + 1 + 1 + 1, 4, none⟩ = some v) /\ w2.frozen? ⟨w.heap.size + 1 + 1 + 1, 4, none⟩ = false := hrr 4 (by omega)
  obtain ⟨⟨v5, hr5⟩, hq5⟩ : (∃ v, w2.cell? ⟨w.heap.size + 1 + 1 + 1, 5, none⟩ = some v) /\ w2.frozen? ⟨w.heap.size + 1 + 1 + 1, 5, none⟩ = false := hrr 5 (by omega)
  have Hbw := lH hbw
  clear hbw hrr hb2 hb4 hff
  go_wp2
  refine bodyPost_ret (v := ldv f) (by simp [results, Tryd.results57, go_sem, hr0, hr1, hr2, hr3, hr4, hr5]) rfl ⟨rfl, ?_⟩
  exact Hbw.out.trans ((((((bR _ _).setCell (by simp <;> omega) _).setCell (by simp <;> omega) _).setCell (by simp <;> omega) _).setCell (by simp <;> omega) _).setCell (by simp <;> omega) _ |>.setCell (by simp <;> omega) _)
theorem below_dn {n : Nat} {w w' : World} (h : Below n w w') (k : Nat) : Below n w (w'.drewN k) := ⟨h.os, h.tape, h.output, h.size, h.block⟩
theorem lackFrom_hit {l T : Nat -> Int} {m k : Nat} (hm : 0 < m) (h : T k < l k) : lackFrom l T m k = k := by
 obtain ⟨q, rfl⟩ : ∃ q, m = q + 1 := ⟨m - 1, by omega⟩
 rw [lackFrom, if_pos h]
theorem lackFrom_miss {l T : Nat -> Int} {m k : Nat} (hm : 0 < m) (h : ¬ T k < l k) : lackFrom l T m k = lackFrom l T (m - 1) (k + 1) := by
 obtain ⟨q, rfl⟩ : ∃ q, m = q + 1 := ⟨m - 1, by omega⟩
 rw [lackFrom, if_neg h]; rfl
set_option maxHeartbeats 1600000 in
theorem c70 (V : BkV) (B : Bk) (hB : B.Fine) (l : Nat -> Int) (tb tofs tcap : Nat) (T : Nat -> Int) (w : World) (hT : TrAt w tb tofs B.links.length T) :
  Calls tP 70 #[V.val B, ldv l, .slice (some ⟨tb, tofs, none⟩) B.links.length tcap] w
   fun e w' => e = .returned (.int .i64 (B.lack l T)) /\ Below w.heap.size w w' := by
 obtain ⟨ta, la, pa, tc, lc, pc⟩ := V
 have hl := hB.links
 have ht := hB.towns
 unfold Bk.spokes at hl
 have htl : B.towns.length <= maxLen := by unfold maxLen; omega
 have HT := lH hT
 clear hT
 generalize hf : B.lack l T = f
 have Hf := lH hf
 clear hf
 go_enter Tryd.func70, Tryd.ntmps70
 go_wp2
 go_step3
 go_wp2_with (first | (go_at_call 88; refine (c88 _ _ _ _ _ _ _ htl).mono ?_; rintro e w1 ⟨rfl, hb1⟩))
 go_step3
 go_wp2_with (first | (go_at_call 88; refine (c88 _ _ _ _ _ _ _ htl).mono ?_; rintro e w1 ⟨rfl, hb1⟩))
 have hbl : Below w.heap.size w w1 := (((bR _ _).alloc (nR _) _).alloc (by simp) _).trans (hb1.mono (by simp; omega))
 have hl0 : ∀ j, j < 6 -> w1.cell? ⟨w.heap.size + 1, j, none⟩ = some (.int .i64 (l j)) := fun j hj => by
  rw [(bcell hb1).1 _ _ (by simp)]
  match j, hj with
  | 0, _ | 1, _ | 2, _ | 3, _ | 4, _ | 5, _ => go_simp
 have hT1 := HT.out.below hbl (nR _)
 have Hl0 := lH hl0
 have HT1 := lH hT1
 have Hbl := lH hbl
 clear hl0 hT1 hbl hb1
 have hbt : ((B.towns.length : Int) - 1).toNat = B.towns.length - 1 := by omega
 have Hbt := lH hbt
 clear hbt
 have hf0 : f = lackFrom l T (B.towns.length - 1 - 0) 0 := Hf.out.symm
 have Hf0 := lH hf0
 clear hf0
 go_loopw [7, 8, 11] (fun r _ i wr => ∃ k : Nat, k <= B.towns.length - 1 /\ r = .int .i64 (-1) /\ i = .int .i64 (k : Int) /\ f = lackFrom l T (B.towns.length - 1 - k) k /\ ∃ n, wr = w1.drewN n) (fun _ _ i _ => B.towns.length - (intOf i).toNat)
 case atStart => exact ⟨0, Nat.zero_le _, rfl, rfl, Hf0.out, 0, rfl⟩
 case round =>
  obtain ⟨k, hk, rfl, rfl, hfk, n, rfl⟩ := hrel
  have Hfk := lH hfk
  clear hfk
  by_cases hlt : k < B.towns.length - 1
  ·have hlk : w1.cell? ⟨w.heap.size + 1, k, none⟩ = some (.int .i64 (l k)) := Hl0.out k (by omega)
   have htk : w1.cell? ⟨tb, tofs + k, none⟩ = some (.int .i64 (T k)) := HT1.out.get k (by omega)
   have hk0 : (0 : Int) <= (k : Int) := Int.natCast_nonneg _
   have hk6 : (k : Int) < 6 := by omega
   have hkl : (k : Int) < (B.links.length : Int) := by omega
   have hdec : decide ((k : Int) < (B.towns.length : Int) - 1) = true := by simp; omega
   by_cases hc : T k < l k
   ·go_wp2_with fail
    go_quiet (fail)
    go_wp2
    rw [Exit.noGoto_ret]
    go_ret
    exact ⟨by rw [Hfk.out, lackFrom_hit (by omega) hc]; rfl, below_dn (below_dn Hbl.out _) _⟩
   ·go_wp2_with fail
    go_quiet (fail)
    go_wp2
    go_roundw
    case rel => exact ⟨k + 1, by omega, rfl, by go_num, by rw [Hfk.out, lackFrom_miss (by omega) (by omega)]; rfl, n + nq, rfl⟩
    case measure => simp [intOf]; omega
  ·have hke : B.towns.length - 1 - k = 0 := by omega
   have Hke := lH hke
   clear hke
   have hdec : decide ((k : Int) < (B.towns.length : Int) - 1) = false := by simp; omega
   go_wp2
   rw [Exit.noGoto_ret]
   go_ret
   exact ⟨by rw [Hfk.out, Hke.out]; rfl, below_dn Hbl.out _⟩
def Gone : Exit -> Act -> World -> Prop := fun _ _ _ => False
theorem cell_grow {w : World} {o : Obj} {a : Addr} {v : Value} (h : w.cell? a = some v) : (w.alloc o).cell? a = some v := by
 have hl := World.block_lt_of_cell? w _ h
 rw [World.cell?_alloc_lt _ _ _ hl]; exact h
structure KidAt (w : World) (V : BkV) (B : Bk) (bb hb trb h tb tofs tcap : Nat) : Prop where
 b0 : w.cell? ⟨bb, 0, none⟩ = some (.int .i64 B.hours)
 b1 : w.cell? ⟨bb, 1, none⟩ = some (.slice V.ta B.towns.length V.tc)
 b2 : w.cell? ⟨bb, 2, none⟩ = some (.slice V.la B.links.length V.lc)
 b3 : w.cell? ⟨bb, 3, none⟩ = some (.slice V.pa B.pairs.length V.pc)
 hc : w.cell? ⟨hb, 0, none⟩ = some (.int .i64 (h : Int))
 tr : w.cell? ⟨trb, 0, none⟩ = some (.slice (some ⟨tb, tofs, none⟩) B.links.length tcap)
 g0 : w.cell? ⟨0, 0, none⟩ = some (.func (.func 144) #[] #[])
 g1 : w.cell? ⟨1, 0, none⟩ = some (.func (.func 145) #[] #[])
theorem KidAt.below {n : Nat} {w w' : World} {V : BkV} {B : Bk} {bb hb trb h tb tofs tcap : Nat} (k : KidAt w V B bb hb trb h tb tofs tcap) (hb' : Below n w w') (hn : w.heap.size <= n) : KidAt w' V B bb hb trb h tb tofs tcap :=
 ⟨cell_below hb' k.b0 hn, cell_below hb' k.b1 hn, cell_below hb' k.b2 hn, cell_below hb' k.b3 hn, cell_below hb' k.hc hn, cell_below hb' k.tr hn, cell_below hb' k.g0 hn, cell_below hb' k.g1 hn⟩
def found (B : Bk) (T : Nat -> Int) (h : Nat) : Value := .agg #[.int .i64 (h : Int), .int .i64 (B.lackIn T true h), .int .i64 (B.lackIn T false h)]
theorem c57_most (V : BkV) (B : Bk) (hB : B.Fine) (h : Nat) (tb tofs tcap : Nat) (T : Nat -> Int) (w0 w : World) (hat : BkAt w0 V B) (hT : TrAt w0 tb tofs B.links.length T) (hh : (h : Int) < B.hours) (hb : Below w0.heap.size w0 w) :
  Calls tP 57 #[.agg #[.int .i64 B.hours, .slice V.ta B.towns.length V.tc, .slice V.la B.links.length V.lc, .slice V.pa B.pairs.length V.pc], .int .i64 (h : Int), .slice (some ⟨tb, tofs, none⟩) B.links.length tcap, .agg #[.func (.func 145) #[] #[]]] w
   fun e w' => e = .returned (ldv (B.inn T true h)) /\ Below w.heap.size w w' := c57 true V B hB h tb tofs tcap T w (hat.below hb (nR _)) (hT.below hb (nR _)) hh
theorem c57_fewest (V : BkV) (B : Bk) (hB : B.Fine) (h : Nat) (tb tofs tcap : Nat) (T : Nat -> Int) (w0 w : World) (hat : BkAt w0 V B) (hT : TrAt w0 tb tofs B.links.length T) (hh : (h : Int) < B.hours) (hb : Below w0.heap.size w0 w) :
  Calls tP 57 #[.agg #[.int .i64 B.hours, .slice V.ta B.towns.length V.tc, .slice V.la B.links.length V.lc, .slice V.pa B.pairs.length V.pc], .int .i64 (h : Int), .slice (some ⟨tb, tofs, none⟩) B.links.length tcap, .agg #[.func (.func 144) #[] #[]]] w
   fun e w' => e = .returned (ldv (B.inn T false h)) /\ Below w.heap.size w w' := c57 false V B hB h tb tofs tcap T w (hat.below hb (nR _)) (hT.below hb (nR _)) hh
theorem below_call {a w w' : World} (h : Below a.heap.size a w) (k : Below w.heap.size w w') : Below a.heap.size a w' := h.trans (k.mono h.size)
theorem below_alloc {a w : World} {o : Obj} (h : Below a.heap.size a w) : Below a.heap.size a (w.alloc o) := h.alloc h.size o
def Box (w : World) (b : Nat) (v : Nat -> Int) : Prop := ∀ i, i < 6 -> w.cell? ⟨b, i, none⟩ = some (.int .i64 (v i)) /\ w.frozen? ⟨b, i, none⟩ = false
theorem Box.below {n : Nat} {w w' : World} {b : Nat} {v : Nat -> Int} (h : Box w b v) (hb : Below n w w') (hn : b < n) : Box w' b v := fun i hi => by
 obtain ⟨hc, hf⟩ := bcell hb
 rw [hc _ _ hn, hf _ _ hn]; exact h i hi
noncomputable def kops : Array Oper := match Tryd.f100.body with
 | some (.seq (.region _ ops _) _) => ops
 | _ => #[]
def KL (f4 f9 fa fb fc fd : Bool) : Array Bool := #[true, true, true, true, f4, true, true, true, true, f9, fa, fb, fc, fd]
theorem kready (f4 f9 fa fb : Bool) (h : f9 = true -> f4 = true) (hn : f4 = true -> f9 = true -> fa = true -> fb = true -> False) :
  Region.ready .any kops (KL f4 f9 fa fb false false) = (bif f4 then (bif f9 then [] else [9]) else [4]) ++ ((bif fa then [] else [10]) ++ (bif fb then [] else [11])) := by
 cases f4 <;> cases f9 <;> cases fa <;> cases fb <;> first | exact (hn rfl rfl rfl rfl).elim | kernel_rfl | (exact absurd (h rfl) (by decide))
theorem kready12 : Region.ready .any kops (KL true true true true false false) = [12] := by kernel_rfl
theorem kready13 : Region.ready .any kops (KL true true true true true false) = [13] := by kernel_rfl
theorem kready14 : Region.ready .any kops (KL true true true true true true) = [] := by kernel_rfl
section
variable (V : BkV) (B : Bk) (bb hb trb h tb tofs tcap : Nat) (p3 p4 : Value)
def KA (va vb v4 v9 : Value) : Act := ⟨#[.pointer (some ⟨bb, 0, none⟩), .pointer (some ⟨hb, 0, none⟩), .pointer (some ⟨trb, 0, none⟩), p3, p4, va, vb, ud,
 .agg #[.int .i64 B.hours, .slice V.ta B.towns.length V.tc, .slice V.la B.links.length V.lc, .slice V.pa B.pairs.length V.pc], .int .i64 (h : Int), .slice (some ⟨tb, tofs, none⟩) B.links.length tcap, .agg #[.func (.func 145) #[] #[]], v4,
 .agg #[.int .i64 B.hours, .slice V.ta B.towns.length V.tc, .slice V.la B.links.length V.lc, .slice V.pa B.pairs.length V.pc], .int .i64 (h : Int), .slice (some ⟨tb, tofs, none⟩) B.links.length tcap, .agg #[.func (.func 144) #[] #[]], v9,
 ud, ud, ud, ud, ud, ud, ud, ud, ud, ud, ud, ud, ud, ud, ud, ud, ud, ud, ud, ud, ud, ud, ud, ud], []⟩
end
structure KS (B : Bk) (T : Nat -> Int) (h : Nat) (w0 w : World) (f4 f9 fa fb : Bool) (va vb v4 v9 : Value) : Prop where
 bel : Below w0.heap.size w0 w
 h4 : f4 = true -> v4 = ldv (B.inn T true h)
 h9 : f9 = true -> v9 = ldv (B.inn T false h)
 ha : fa = true -> ∃ b, va = .pointer (some ⟨b, 0, none⟩) /\ w0.heap.size <= b /\ b < w.heap.size /\ Box w b (fun _ => 0)
 hb : fb = true -> ∃ b, vb = .pointer (some ⟨b, 0, none⟩) /\ w0.heap.size <= b /\ b < w.heap.size /\ Box w b (fun _ => 0)
 ne : fa = true -> fb = true -> va ≠ vb
theorem box_new (w : World) : Box (w.alloc (.cells #[.int .i64 0, .int .i64 0, .int .i64 0, .int .i64 0, .int .i64 0, .int .i64 0] 94)) w.heap.size (fun _ => 0) := by
 intro i hi
 rcases i with _ | _ | _ | _ | _ | _ | i
 ·exact ⟨by simp, by simp⟩
 ·exact ⟨by simp, by simp⟩
 ·exact ⟨by simp, by simp⟩
 ·exact ⟨by simp, by simp⟩
 ·exact ⟨by simp, by simp⟩
 ·exact ⟨by simp, by simp⟩
 ·omega
def fill (w : World) (b : Nat) (v : Nat -> Int) : World :=
 (((((w.setCell ⟨b, 0, none⟩ (.int .i64 (v 0))).setCell ⟨b, 1, none⟩ (.int .i64 (v 1))).setCell ⟨b, 2, none⟩ (.int .i64 (v 2))).setCell ⟨b, 3, none⟩ (.int .i64 (v 3))).setCell ⟨b, 4, none⟩ (.int .i64 (v 4))).setCell ⟨b, 5, none⟩ (.int .i64 (v 5))
theorem fill_below {w0 w : World} {b : Nat} {v : Nat -> Int} (h : Below w0.heap.size w0 w) (hb : w0.heap.size <= b) : Below w0.heap.size w0 (fill w b v) :=
 (((((h.setCell (p := ⟨b, 0, none⟩) hb _).setCell (p := ⟨b, 1, none⟩) hb _).setCell (p := ⟨b, 2, none⟩) hb _).setCell (p := ⟨b, 3, none⟩) hb _).setCell (p := ⟨b, 4, none⟩) hb _).setCell (p := ⟨b, 5, none⟩) hb _
theorem fill_size {w : World} {b : Nat} {v : Nat -> Int} : (fill w b v).heap.size = w.heap.size := by simp [fill]
theorem fill_far {w : World} {b c : Nat} {v u : Nat -> Int} (h : Box w c u) (hne : b ≠ c) : Box (fill w b v) c u := fun i hi => by
 have hn : c ≠ b := fun e => hne e.symm
 obtain ⟨x, y⟩ := h i hi
 constructor
 ·simp [fill, World.cell?_setCell_far, hne, x]
 ·simp [fill, y]
theorem fill_box {w : World} {b : Nat} {v u : Nat -> Int} (h : Box w b u) : Box (fill w b v) b v := fun i hi => by
 have x0 := h 0 (by omega); have x1 := h 1 (by omega); have x2 := h 2 (by omega); have x3 := h 3 (by omega); have x4 := h 4 (by omega); have x5 := h 5 (by omega)
 go_split_ands
 unfold fill
 rcases i with _ | _ | _ | _ | _ | _ | i
 ·constructor <;> go_simp
 ·constructor <;> go_simp
 ·constructor <;> go_simp
 ·constructor <;> go_simp
 ·constructor <;> go_simp
 ·constructor <;> go_simp
 ·omega
def cnt (f4 f9 fa fb : Bool) : Nat := (bif f4 then 0 else 1) + (bif f9 then 0 else 1) + (bif fa then 0 else 1) + (bif fb then 0 else 1)
set_option maxHeartbeats 1600000 in
theorem kid_diamond (V : BkV) (B : Bk) (hB : B.Fine) (bb hb trb h tb tofs tcap : Nat) (T : Nat -> Int) (p3 p4 : Value) (w0 : World) (hat : BkAt w0 V B) (hT : TrAt w0 tb tofs B.links.length T) (hh : (h : Int) < B.hours) (Q : Exit -> Act -> World -> Prop) (S : World -> Prop) (hS : ∀ w', Below w0.heap.size w0 w' -> S w')
  (hQ : ∀ b5 b6 w', Below w0.heap.size w0 w' -> w0.heap.size <= b5 -> b5 < w'.heap.size -> w0.heap.size <= b6 -> b6 < w'.heap.size -> b5 ≠ b6 -> Box w' b5 (B.inn T true h) -> Box w' b6 (B.inn T false h) ->
   Q .normal (KA V B bb hb trb h tb tofs tcap p3 p4 (.pointer (some ⟨b5, 0, none⟩)) (.pointer (some ⟨b6, 0, none⟩)) (ldv (B.inn T true h)) (ldv (B.inn T false h))) w') :
  ∀ (n : Nat) (f4 f9 fa fb : Bool) (va vb v4 v9 : Value) (w : World), cnt f4 f9 fa fb = n -> (f9 = true -> f4 = true) -> KS B T h w0 w f4 f9 fa fb va vb v4 v9 ->
   wpAnyH tP .any kops Q S (n + 2) (KL f4 f9 fa fb false false) (KA V B bb hb trb h tb tofs tcap p3 p4 va vb v4 v9) w := by
 intro n
 induction n with
 | zero =>
  intro f4 f9 fa fb va vb v4 v9 w hn h94 K
  obtain ⟨rfl, rfl, rfl, rfl⟩ : f4 = true /\ f9 = true /\ fa = true /\ fb = true := by
   revert hn; cases f4 <;> cases f9 <;> cases fa <;> cases fb <;> simp [cnt]
  obtain rfl := K.h4 rfl
  obtain rfl := K.h9 rfl
  obtain ⟨b5, rfl, l5, u5, x5⟩ := K.ha rfl
  obtain ⟨b6, rfl, l6, u6, x6⟩ := K.hb rfl
  have hne : b5 ≠ b6 := fun e => K.ne rfl rfl (by rw [e])
  refine wpAnyH_all (rs := [12]) kready12 (by simp) (fun i hi => ?_)
  obtain rfl : i = 12 := by simpa using hi
  refine wpOp_step (by rfl) (fun K' hK => ?_)
  simp only [kops, Tryd.f100, KA, ldv]
  have x0 := x5 0 (by omega); have x1 := x5 1 (by omega); have x2 := x5 2 (by omega); have x3 := x5 3 (by omega); have x4 := x5 4 (by omega); have x55 := x5 5 (by omega)
  go_split_ands
  go_simp
  refine hK _ _ ⟨hS _ (fill_below K.bel l5), ?_⟩
  have y5 := fill_box (v := B.inn T true h) x5
  have y6 := fill_far (v := B.inn T true h) x6 hne
  have yb := fill_below (v := B.inn T true h) K.bel l5
  have ys := fill_size (w := w) (b := b5) (v := B.inn T true h)
  refine wpAnyH_all (rs := [13]) kready13 (by simp) (fun i hi => ?_)
  obtain rfl : i = 13 := by simpa using hi
  refine wpOp_step (by rfl) (fun K' hK => ?_)
  have z := hQ b5 b6 (fill (fill w b5 (B.inn T true h)) b6 (B.inn T false h)) (fill_below yb l6) l5 (by rw [fill_size, ys]; exact u5) l6 (by rw [fill_size, ys]; exact u6) hne (fill_far y5 (fun e => hne e.symm)) (fill_box y6)
  change if _ then Oper.wp _ _ _ (fill w b5 (B.inn T true h)) _ _ else _
  generalize fill w b5 (B.inn T true h) = w2 at y5 y6 yb ys z ⊢
  simp only [kops, Tryd.f100]
  have x0 := y6 0 (by omega); have x1 := y6 1 (by omega); have x2 := y6 2 (by omega); have x3 := y6 3 (by omega); have x4 := y6 4 (by omega); have x55 := y6 5 (by omega)
  go_split_ands
  go_simp
  exact hK _ _ ⟨hS _ (fill_below yb l6), wpAnyH_done kready14 z 0⟩
 | succ n ih =>
  intro f4 f9 fa fb va vb v4 v9 w hn h94 K
  have hr := kready f4 f9 fa fb h94 (by rintro rfl rfl rfl rfl; simp [cnt] at hn)
  refine ⟨fun h0 => ?_, fun i hi => ?_⟩
  ·rw [hr] at h0
   revert h0 hn; cases f4 <;> cases f9 <;> cases fa <;> cases fb <;> simp [cnt]
  ·rw [hr] at hi
   rcases List.mem_append.1 hi with hi | hi
   ·cases hf4 : f4 with
    | false =>
     obtain rfl : i = 4 := by rw [hf4] at hi; simpa using hi
     subst hf4
     have e9 : f9 = false := by cases f9 <;> simp_all
     refine wpOp_step (by rfl) (fun K' hK => ?_)
     simp only [kops, Tryd.f100, KA]
     go_simp
     go_at_call 57
     refine (c57_most V B hB h tb tofs tcap T w0 w hat hT hh K.bel).mono ?_
     rintro e w1 ⟨rfl, hbel⟩
     refine hK _ _ ⟨hS _ (below_call K.bel hbel), ih true f9 fa fb va vb (ldv (B.inn T true h)) v9 w1 ?_ (fun _ => rfl) ?_⟩
     ·simp only [cnt, cond_true, cond_false] at hn ⊢; omega
     ·exact ⟨below_call K.bel hbel, fun _ => rfl, K.h9, fun e => (K.ha e).imp fun b q => ⟨q.1, q.2.1, nL q.2.2.1 hbel.size, q.2.2.2.below hbel q.2.2.1⟩, fun e => (K.hb e).imp fun b q => ⟨q.1, q.2.1, nL q.2.2.1 hbel.size, q.2.2.2.below hbel q.2.2.1⟩, K.ne⟩
    | true =>
     subst hf4
     obtain ⟨rfl, rfl⟩ : f9 = false /\ i = 9 := by cases f9 <;> simp_all
     refine wpOp_step (by rfl) (fun K' hK => ?_)
     simp only [kops, Tryd.f100, KA]
     go_simp
     go_at_call 57
     refine (c57_fewest V B hB h tb tofs tcap T w0 w hat hT hh K.bel).mono ?_
     rintro e w1 ⟨rfl, hbel⟩
     refine hK _ _ ⟨hS _ (below_call K.bel hbel), ih true true fa fb va vb v4 (ldv (B.inn T false h)) w1 ?_ (fun _ => rfl) ?_⟩
     ·simp only [cnt, cond_true, cond_false] at hn ⊢; omega
     ·exact ⟨below_call K.bel hbel, K.h4, fun _ => rfl, fun e => (K.ha e).imp fun b q => ⟨q.1, q.2.1, nL q.2.2.1 hbel.size, q.2.2.2.below hbel q.2.2.1⟩, fun e => (K.hb e).imp fun b q => ⟨q.1, q.2.1, nL q.2.2.1 hbel.size, q.2.2.2.below hbel q.2.2.1⟩, K.ne⟩
   ·rcases List.mem_append.1 hi with hi | hi
    ·obtain ⟨rfl, rfl⟩ : fa = false /\ i = 10 := by cases fa <;> simp_all
     refine wpOp_step (by rfl) (fun K' hK => ?_)
     simp only [kops, Tryd.f100, KA]
     go_simp
     refine hK _ _ ⟨hS _ (below_alloc K.bel), ih f4 f9 true fb (.pointer (some ⟨w.heap.size, 0, none⟩)) vb v4 v9 _ ?_ h94 ?_⟩
     ·simp only [cnt, cond_true, cond_false] at hn ⊢; omega
     ·exact ⟨below_alloc K.bel, K.h4, K.h9, fun _ => ⟨w.heap.size, rfl, K.bel.size, by simp, box_new w⟩, fun e => (K.hb e).imp fun b q => ⟨q.1, q.2.1, by simp only [World.size_alloc]; omega, q.2.2.2.below ((bR _ w).alloc (nR _) _) q.2.2.1⟩,
       fun _ e => by
        obtain ⟨b, rfl, _, q, _⟩ := K.hb e
        intro e'
        injection e' with e'; injection e' with e'; injection e' with e'
        omega⟩
    ·obtain ⟨rfl, rfl⟩ : fb = false /\ i = 11 := by cases fb <;> simp_all
     refine wpOp_step (by rfl) (fun K' hK => ?_)
     simp only [kops, Tryd.f100, KA]
     go_simp
     refine hK _ _ ⟨hS _ (below_alloc K.bel), ih f4 f9 fa true va (.pointer (some ⟨w.heap.size, 0, none⟩)) v4 v9 _ ?_ h94 ?_⟩
     ·simp only [cnt, cond_true, cond_false] at hn ⊢; omega
     ·exact ⟨below_alloc K.bel, K.h4, K.h9, fun e => (K.ha e).imp fun b q => ⟨q.1, q.2.1, by simp only [World.size_alloc]; omega, q.2.2.2.below ((bR _ w).alloc (nR _) _) q.2.2.1⟩, fun _ => ⟨w.heap.size, rfl, K.bel.size, by simp, box_new w⟩,
       fun e _ => by
        obtain ⟨b, rfl, _, q, _⟩ := K.ha e
        intro e'
        injection e' with e'; injection e' with e'; injection e' with e'
        omega⟩
noncomputable def kbody : Code := match Tryd.f100.body with
 | some (.seq _ c) => c
 | _ => .skip
set_option maxHeartbeats 1600000 in
theorem kid_r0 (V : BkV) (B : Bk) (hB : B.Fine) (bb hb trb h tb tofs tcap : Nat) (T : Nat -> Int) (p3 p4 : Value) (w : World) (hat : BkAt w V B) (hT : TrAt w tb tofs B.links.length T) (hh : (h : Int) < B.hours) (hk : KidAt w V B bb hb trb h tb tofs tcap)
  (Q : Exit -> Act -> World -> Prop) (hQp : ∀ c a a' w, Q (.panic c) a w -> Q (.panic c) a' w)
  (hQ : ∀ b5 b6 w', Below w.heap.size w w' -> w.heap.size <= b5 -> b5 < w'.heap.size -> w.heap.size <= b6 -> b6 < w'.heap.size -> b5 ≠ b6 -> Box w' b5 (B.inn T true h) -> Box w' b6 (B.inn T false h) ->
   Q .normal (KA V B bb hb trb h tb tofs tcap p3 p4 (.pointer (some ⟨b5, 0, none⟩)) (.pointer (some ⟨b6, 0, none⟩)) (ldv (B.inn T true h)) (ldv (B.inn T false h))) w') :
  (Code.region 0 kops true).wp tP Q ⟨#[.pointer (some ⟨bb, 0, none⟩), .pointer (some ⟨hb, 0, none⟩), .pointer (some ⟨trb, 0, none⟩), p3, p4, ud, ud, ud, ud, ud, ud, ud, ud, ud, ud, ud, ud, ud, ud, ud, ud, ud, ud, ud, ud, ud, ud, ud, ud, ud, ud, ud, ud, ud, ud, ud, ud, ud, ud, ud, ud, ud], []⟩ w := by
 have hS : ∀ w', Below w.heap.size w w' -> KidAt w' V B bb hb trb h tb tofs tcap := fun w' b => hk.below b (nR _)
 refine wp_region_held_drew (S := fun w' => KidAt w' V B bb hb trb h tb tofs tcap) (by kernel_rfl) (hS _ (bR _ _).drew) (fun h0 => ?_)
 have hd := kid_diamond V B hB bb hb trb h tb tofs tcap T p3 p4 w hat hT hh Q (fun w' => KidAt w' V B bb hb trb h tb tofs tcap) hS hQ 4 false false false false ud ud ud ud w.drew rfl (fun e => e)
  ⟨(bR _ _).drew, (by intro e; cases e), (by intro e; cases e), (by intro e; cases e), (by intro e; cases e), (by intro e; cases e)⟩
 refine wpAnyH_take (i := 0) (fuel := 13) (v := (.agg #[.int .i64 B.hours, .slice V.ta B.towns.length V.tc, .slice V.la B.links.length V.lc, .slice V.pa B.pairs.length V.pc])) (by rfl) (by kernel_rfl) (by kernel_rfl) (by kernel_rfl) (fun c a w hq => hQp c _ a w hq)
  (Or.inl ⟨by rfl, by (intro w hSw; obtain ⟨k0, k1, k2, k3, k4, k5, k6, k7⟩ := hSw; simp only [kops, Tryd.f100]; go_simp)⟩) h0 ?_
 refine wpAnyH_take (i := 1) (fuel := 12) (v := (.int .i64 (h : Int))) (by rfl) (by kernel_rfl) (by kernel_rfl) (by kernel_rfl) (fun c a w hq => hQp c _ a w hq)
  (Or.inl ⟨by rfl, by (intro w hSw; obtain ⟨k0, k1, k2, k3, k4, k5, k6, k7⟩ := hSw; simp only [kops, Tryd.f100]; go_simp)⟩) h0 ?_
 refine wpAnyH_take (i := 2) (fuel := 11) (v := (.slice (some ⟨tb, tofs, none⟩) B.links.length tcap)) (by rfl) (by kernel_rfl) (by kernel_rfl) (by kernel_rfl) (fun c a w hq => hQp c _ a w hq)
  (Or.inl ⟨by rfl, by (intro w hSw; obtain ⟨k0, k1, k2, k3, k4, k5, k6, k7⟩ := hSw; simp only [kops, Tryd.f100]; go_simp)⟩) h0 ?_
 refine wpAnyH_take (i := 3) (fuel := 10) (v := (.agg #[.func (.func 145) #[] #[]])) (by rfl) (by kernel_rfl) (by kernel_rfl) (by kernel_rfl) (fun c a w hq => hQp c _ a w hq)
  (Or.inl ⟨by rfl, by (intro w hSw; obtain ⟨k0, k1, k2, k3, k4, k5, k6, k7⟩ := hSw; simp only [kops, Tryd.f100]; go_simp)⟩) h0 ?_
 refine wpAnyH_take (i := 5) (fuel := 9) (v := (.agg #[.int .i64 B.hours, .slice V.ta B.towns.length V.tc, .slice V.la B.links.length V.lc, .slice V.pa B.pairs.length V.pc])) (by rfl) (by kernel_rfl) (by kernel_rfl) (by kernel_rfl) (fun c a w hq => hQp c _ a w hq)
  (Or.inl ⟨by rfl, by (intro w hSw; obtain ⟨k0, k1, k2, k3, k4, k5, k6, k7⟩ := hSw; simp only [kops, Tryd.f100]; go_simp)⟩) h0 ?_
 refine wpAnyH_take (i := 6) (fuel := 8) (v := (.int .i64 (h : Int))) (by rfl) (by kernel_rfl) (by kernel_rfl) (by kernel_rfl) (fun c a w hq => hQp c _ a w hq)
  (Or.inl ⟨by rfl, by (intro w hSw; obtain ⟨k0, k1, k2, k3, k4, k5, k6, k7⟩ := hSw; simp only [kops, Tryd.f100]; go_simp)⟩) h0 ?_
 refine wpAnyH_take (i := 7) (fuel := 7) (v := (.slice (some ⟨tb, tofs, none⟩) B.links.length tcap)) (by rfl) (by kernel_rfl) (by kernel_rfl) (by kernel_rfl) (fun c a w hq => hQp c _ a w hq)
  (Or.inl ⟨by rfl, by (intro w hSw; obtain ⟨k0, k1, k2, k3, k4, k5, k6, k7⟩ := hSw; simp only [kops, Tryd.f100]; go_simp)⟩) h0 ?_
 refine wpAnyH_take (i := 8) (fuel := 6) (v := (.agg #[.func (.func 144) #[] #[]])) (by rfl) (by kernel_rfl) (by kernel_rfl) (by kernel_rfl) (fun c a w hq => hQp c _ a w hq)
  (Or.inl ⟨by rfl, by (intro w hSw; obtain ⟨k0, k1, k2, k3, k4, k5, k6, k7⟩ := hSw; simp only [kops, Tryd.f100]; go_simp)⟩) h0 ?_
 exact hd
end Go.Proofs.YtaikibfkggglgaaDoor
