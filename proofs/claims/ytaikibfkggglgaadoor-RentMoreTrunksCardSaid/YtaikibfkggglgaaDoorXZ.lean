/- Proved here, at the end (moreTrunks_card): the given law RentMoreTrunks (its tied card) holds of the given program, for every input that the card admits. Conditions: none beyond the given statement. -/
import Derived.Test.YtaikibfkggglgaaDoorX28
import Derived.Test.YtaikibfkggglgaaDoorRows
import Derived.Conc.LeavingOf
import Derived.LaidMore
import Derived.OpenShut
import Derived.Carry
import Derived.ProofKit
import Derived.Stop.Joined
import Derived.Test.YtaikibfkggglgaaDoorTie
import Derived.Test.YtaikibfkggglgaaDoorCards
import Derived.SevenTiedAt
set_option maxRecDepth 100000
open Go.Proofs.Tryd renaming prog → tP
open Array renaming getElem?_eq_getElem → aG
open List renaming getD_eq_getElem?_getD → lD
namespace Go.Proofs.YtaikibfkggglgaaDoor
open Go.RowKit Go.Rent Go.Tp Go.Conc
theorem BkRaw.tp {w : World} {V : BkV} {B : Bk} {τ : Nat -> Question -> Nat} {d : Nat} (h : BkRaw w V B) : BkRaw (w.tp τ d noJ) V B :=
 ⟨h.towns.tp, fun i L hL => by
  obtain ⟨b, o, sa, sc, h1, h2, h3, h4, h5, h6⟩ := h.links i L hL
  exact ⟨b, o, sa, sc, h1, by rw [cell_tp]; exact h2, by rw [cell_tp]; exact h3, by rw [cell_tp]; exact h4, h5.tp, h6⟩, fun i L hL => by
  obtain ⟨b, o, sa, sc, h1, h2, h3, h4, h5, h6⟩ := h.pairs i L hL
  exact ⟨b, o, sa, sc, h1, by rw [cell_tp]; exact h2, by rw [cell_tp]; exact h3, by rw [cell_tp]; exact h4, h5.tp, h6⟩, h.tc, h.nl, h.np, h.sz, h.pc⟩
theorem SlH.kept {w w' : World} {sa : Option Addr} {xs : List Int} (h : SlH w sa xs) (hk : Kept w.heap.size w w') : SlH w' sa xs := by
 have := (h.below hk.below (Nat.le_refl _)).tp (τ := w'.tape) (d := w'.drawn)
 rwa [tp_tp, tp_self] at this
theorem fit_of {B : Bk} (h : fitB B = true) : greatB B = false /\ B.alarm = 0 := by
 unfold fitB at h
 simpa using h
theorem lawBk_of {w u : World} {b1 : Nat} {V : BkV} {B : Bk} (hs : BkRaw w V B) (hr : BkRows w V) (hv : Vars w) (hg : greatB B = false) (hk : Kept w.heap.size w u)
  (hc : u.cell? ⟨b1, 0, none⟩ = some (.int .i64 B.hours) /\ u.cell? ⟨b1, 1, none⟩ = some (.slice V.ta B.towns.length V.tc) /\ u.cell? ⟨b1, 2, none⟩ = some (.slice V.la B.links.length V.lc) /\ u.cell? ⟨b1, 3, none⟩ = some (.slice V.pa B.pairs.length V.pc)) : LawBk u b1 V B :=
 ⟨hc.1, hc.2.1, hc.2.2.1, hc.2.2.2, (hs.in hg).1.kept hk, hr.kept hk, hv.kept hk⟩
theorem rented_chosen {B : Bk} {xs : List Int} (ha : B.alarm = 0) (hl : xs.length = B.links.length) (hb : badTrunk xs = false) : rentedA B xs true = 0 := by
 unfold rentedA
 rw [if_pos ha, if_pos hl, hb]; rfl
theorem enough_val {B : Bk} {xs : List Int} (hr : rentedA B xs true = 0) : enoughV B xs = .tuple #[.int .i64 (claimFrom B (trk xs) B.hours.toNat 0 1), .int .i64 0] := by
 unfold enoughV
 rw [if_pos hr]
theorem more_len (xs : List Int) (k : Nat) : (moreOf xs k).length = xs.length := by simp [moreOf]
theorem more_ok {xs : List Int} (k : Nat) (h : badTrunk xs = false) : badTrunk (moreOf xs k) = false := by
 have hk := (trk_pos h k)
 unfold badTrunk at h ⊢
 rw [List.any_eq_false] at h ⊢
 intro y hy
 rcases List.mem_or_eq_of_mem_set hy with h1 | h1
 ·exact h y h1
 ·subst h1
  simp [btw]
  omega
theorem more_le {xs : List Int} (k : Nat) (h : badTrunk xs = false) (j : Nat) : trk xs j <= trk (moreOf xs k) j := by
 have hk := (trk_pos h k)
 unfold moreOf
 by_cases e : j = k
 ·subst e
  by_cases hl : j < xs.length
  ·have h : ∀ v, trk (xs.set j v) j = v := fun v => by unfold trk; rw [lD, List.getElem?_set_self hl]; rfl
   rw [h]
   omega
  ·unfold trk
   rw [lD, lD, List.getElem?_eq_none (by omega), List.getElem?_eq_none (by simp; omega)]
   exact Int.le_refl _
 ·unfold trk
  rw [lD, lD, List.getElem?_set_ne (Ne.symm e)]
  exact Int.le_refl _
set_option maxHeartbeats 1000000 in
theorem mt_law (V : BkV) (B : Bk) (ps : List Int) (sa : Option Addr) (cap : Nat) (q : Int) (w : World) (hq : 0 <= q /\ q <= 255) (hs : BkRaw w V B) (hr : BkRows w V) (hv : Vars w) (hp : SlH w sa ps) (hpb : ∀ x ∈ ps, 0 <= x /\ x <= 65535) (hl : ps.length <= maxLen) :
  GL tP 8 [.code mtBody] (LawR w) ⟨(V.val B :: .slice sa ps.length cap :: .int .u8 q :: List.replicate 136 undef).toArray, []⟩ w := by
 refine gl_comesT (fun τ => mt_head V B sa ps.length cap q (w.tp τ 0 noJ) hs.tp) ?_
 rintro τ it a u ⟨b1, rfl, hS, hc, hb⟩
 have hk : Kept w.heap.size w u := kept_from (Kept.refl _ _) hb
 have e25 : a.eval (.tmp 25) = .bool (!fitB B) := by rw [ev]; exact hS.2.2.1
 cases hf : fitB B with
 | false =>
  rw [hf] at e25
  simp only [mtIf, mtBody, Tryd.f8, Option.getD_some]
  refine gl_cond good true e25 ?_
  rw [if_pos rfl]
  refine gl_seq good (gl_region good ?_)
  exact gl_lives (N := 139) (i := 0) lives_L Tryd.func8 rfl rfl rfl rfl rfl rfl rfl rfl rfl (by decide) (by decide) (by decide) ⟨hS.1, hS.2.1, trivial⟩ (hv.kept hk) hk
 | true =>
  rw [hf] at e25 hS
  obtain ⟨hg, ha⟩ := fit_of hf
  have hG := good_of_alarm ha
  have hh := hG.fine.links.2
  have hB := lawBk_of hs hr hv hg hk hc
  have e : mtIf = .cond (.tmp 25) (match mtIf with | .cond _ x _ => x | _ => .skip) .skip := rfl
  rw [e]
  refine gl_cond good false e25 ?_
  rw [if_neg (by decide)]
  refine gl_skip good ?_
  have hxl := trunksOf_len ps B.links.length
  have hxb := trunksOf_ok (ps := ps) B.links.length
  refine gl_comesT (fun τ => mt_go V B ps sa cap b1 q hq a (u.tp τ 0 noJ) (hB.kept kept_tape) hG ((hp.kept hk).kept kept_tape) hpb hl ⟨hS.1, hS.2.1, hS.2.2.2⟩) ?_
  generalize trunksOf ps B.links.length = xs at *
  generalize (q % B.links.length).toNat = k at *
  have hyl : (moreOf xs k).length = B.links.length := (more_len xs k).trans hxl
  have hyb := more_ok k hxb
  have hle := more_le k hxb
  rintro τ1 it a1 u1 ⟨lb, lc', mb, mc, rfl, hS1, hlx, hly, hb1⟩
  generalize moreOf xs k = ys at *
  have hrx := rented_chosen ha hxl hxb
  have hry := rented_chosen ha hyl hyb
  have hk1 : Kept u.heap.size u u1 := kept_from (Kept.refl _ _) hb1
  have hB1 := hB.kept hk1
  have hkw1 := hk.trans (hk1.mono hk.size)
  have en1 := enough_L u1 V B xs (some ⟨lb, 0, none⟩) lc' hB1.book hB1.rows hB1.vars hlx (by omega)
  rw [hxl] at en1
  simp only [mt7, mtRest, mtBody, Tryd.f8, Option.getD_some]
  refine gl_callS (d := 50) hS1 rfl rfl rfl (by decide) rfl (fun u => by have h := hS1.2.2; simp only [SlA] at h; simp [go_sem, h]) en1 ?_
  rintro a v u2 ⟨rfl, hk2⟩ hS2
  rw [enough_val hrx] at hS2
  have hB2 := hB1.kept hk2
  have hlx2 := hlx.kept hk2
  have hly2 := hly.kept hk2
  have hkw2 := hkw1.trans (hk2.mono hkw1.size)
  have hc3 := claim_mem B (trk xs) B.hours.toNat 0 1 (.inr rfl)
  have hd3 := claim_mem B (trk ys) B.hours.toNat 0 1 (.inr rfl)
  have h11 : claimFrom B (trk xs) B.hours.toNat 0 1 = 1 -> claimFrom B (trk ys) B.hours.toNat 0 1 = 1 := fun h => by
   rw [claim_one] at h ⊢
   exact ⟨rfl, fun j h1 h2 => ⟨lackIn_mono B hG.fine _ _ hle false j (h.2 j h1 h2).1, lackIn_mono B hG.fine _ _ hle true j (h.2 j h1 h2).2⟩⟩
  have h02 : claimFrom B (trk xs) B.hours.toNat 0 1 = 0 -> claimFrom B (trk ys) B.hours.toNat 0 1 ≠ 2 := fun h h' => by
   obtain ⟨j, j1, j2, j3⟩ := (claim_two B (trk ys) B.hours.toNat 0 1 (by decide)).1 h'
   have : claimFrom B (trk xs) B.hours.toNat 0 1 = 2 := (claim_two B (trk xs) B.hours.toNat 0 1 (by decide)).2 ⟨j, j1, j2, Int.not_lt.1 fun hn => by
    have := lackIn_mono B hG.fine _ _ hle false j hn
    omega⟩
   omega
  have hcost := costUp_mono hG hle B.links.length
  have hev := enough_val hry
  have en2 := enough_L u2 V B ys (some ⟨mb, 0, none⟩) mc hB2.book hB2.rows hB2.vars hly2 (by omega)
  rw [hyl] at en2
  generalize claimFrom B (trk xs) B.hours.toNat 0 1 = c at *
  generalize claimFrom B (trk ys) B.hours.toNat 0 1 = d at *
  refine gl_putS (d := 47) (v := .tuple #[.int .i64 c, .int .i64 0]) hS2 rfl rfl rfl (by decide) rfl (fun τ => by have h := hS2.2.2; simp only [SlA] at h; simp [go_sem, h]) fun a hS3 => ?_
  refine gl_putS (d := 51) (v := .int .i64 c) hS3 rfl rfl rfl (by decide) rfl (fun τ => by have h := hS3.2.2; simp only [SlA] at h; simp [go_sem, h]) fun a hS4 => ?_
  refine gl_putS (d := 52) (v := .int .i64 0) hS4 rfl rfl rfl (by decide) rfl (fun τ => by have h := hS4.2.2; simp only [SlA] at h; simp [go_sem, h]) fun a hS5 => ?_
  refine gl_putS (d := 10) (v := .int .i64 c) hS5 rfl rfl rfl (by decide) rfl (fun τ => by have h := hS5.2.2; simp only [SlA] at h; simp [go_sem, h]) fun a hS6 => ?_
  refine gl_putS (d := 11) (v := .int .i64 0) hS6 rfl rfl rfl (by decide) rfl (fun τ => by have h := hS6.2.2; simp only [SlA] at h; simp [go_sem, h]) fun a hS7 => ?_
  refine gl_regionEnd good ?_
  rw [show mtR8 = .seq (.region 8 mt8 false) mtR9 from rfl]
  refine gl_seq good (gl_region good ?_)
  simp only [mt8, mtR8, mtRest, mtBody, Tryd.f8, Option.getD_some]
  refine gl_putS (d := 54) (v := V.val B) hS7 rfl rfl rfl (by decide) rfl (fun τ => by have h := hS7.2.2; simp only [SlA] at h; obtain ⟨c0, c1, c2, c3, _, _, _⟩ := hB2.kept (u' := u2.tp τ 0 noJ) kept_tape; obtain ⟨h0, h1, h2, h3, h4, h5, h6, h7, h8, h9, h10, _⟩ := h; go_simp) fun a hS8 => ?_
  refine gl_putS (d := 55) (v := .slice (some ⟨mb, 0, none⟩) B.links.length mc) hS8 rfl rfl rfl (by decide) rfl (fun τ => by have h := hS8.2.2; simp only [SlA] at h; simp [go_sem, h]) fun a hS9 => ?_
  refine gl_callS (d := 56) hS9 rfl rfl rfl (by decide) rfl (fun u => by have h := hS9.2.2; simp only [SlA] at h; simp [go_sem, h]) en2 ?_
  rintro a v u3 ⟨rfl, hk3⟩ hT1
  rw [hev] at hT1
  have hB3 := hB2.kept hk3
  have hkw3 := hkw2.trans (hk3.mono hkw2.size)
  refine gl_putS (d := 53) (v := .tuple #[.int .i64 d, .int .i64 0]) hT1 rfl rfl rfl (by decide) rfl (fun τ => by have h := hT1.2.2; simp only [SlA] at h; simp [go_sem, h]) fun a hT2 => ?_
  refine gl_putS (d := 57) (v := .int .i64 d) hT2 rfl rfl rfl (by decide) rfl (fun τ => by have h := hT2.2.2; simp only [SlA] at h; simp [go_sem, h]) fun a hT3 => ?_
  refine gl_putS (d := 58) (v := .int .i64 0) hT3 rfl rfl rfl (by decide) rfl (fun τ => by have h := hT3.2.2; simp only [SlA] at h; simp [go_sem, h]) fun a hT4 => ?_
  refine gl_putS (d := 12) (v := .int .i64 d) hT4 rfl rfl rfl (by decide) rfl (fun τ => by have h := hT4.2.2; simp only [SlA] at h; simp [go_sem, h]) fun a hT5 => ?_
  refine gl_putS (d := 13) (v := .int .i64 0) hT5 rfl rfl rfl (by decide) rfl (fun τ => by have h := hT5.2.2; simp only [SlA] at h; simp [go_sem, h]) fun a hT6 => ?_
  refine gl_regionEnd good ?_
  obtain ⟨z1, z2, z3⟩ := hT6
  simp only [SlA] at z3
  obtain ⟨y13, y12, y58, y57, y53, y56, y55, y54, y11, y10, y52, y51, y47, y50, y7, y9, y3, y48, y49, _⟩ := z3
  refine gl_comesT (fun τ => mt_cmp V B b1 lb lc' mb mc xs ys c d hc3 hd3 h11 h02 a (u3.tp τ 0 noJ) (hB3.kept kept_tape) hh ((hlx2.kept hk3).kept kept_tape) ((hly2.kept hk3).kept kept_tape) hxl hyl hrx hry hcost ⟨z1, z2, y13, y12, y58, y57, y53, y56, y55, y54, y11, y10, y52, y51, y47, y50, y7, y9, y3, trivial⟩) ?_
  rintro τ4 it a4 u4 ⟨rfl, hS4', hb4⟩
  have hk4 : Kept u3.heap.size u3 u4 := kept_from (Kept.refl _ _) hb4
  have hB4 := hB3.kept hk4
  have hkw4 := hkw3.trans (hk4.mono hkw3.size)
  refine gl_comesT (fun τ => mt_sum V B b1 lb lc' xs a4 (u4.tp τ 0 noJ) (hB4.kept kept_tape) ha hG (((hlx2.kept hk3).kept hk4).kept kept_tape) hxl hxb hS4') ?_
  rintro τ5 it a5 u5 ⟨rfl, hS5', hb5⟩
  have hk5 : Kept u4.heap.size u4 u5 := kept_from (Kept.refl _ _) hb5
  have hkw5 := hkw4.trans (hk5.mono hkw4.size)
  have e136 := hS5'.2.2.1
  refine gl_and_lives (N := 139) (i := 4) (p := 136) lives_L Tryd.func8 rfl rfl rfl rfl ?_ rfl rfl rfl rfl rfl rfl rfl rfl (by decide) (by decide) (by decide) (by decide) hS5' ((hB4.kept hk5).vars) hkw5
  have hlt : 136 < a5.tmps.size := by rw [hS5'.1]; decide
  rw [aG hlt] at e136
  simp only [Option.getD_some] at e136
  simp [Region.wanted, yielded, mt23, mtR13, mtR9, mtR8, mtRest, mtBody, Tryd.f8, aG hlt, e136]
end Go.Proofs.YtaikibfkggglgaaDoor
namespace Go
open Go.Conc
theorem leaving_and {H : Type} {enc : TypeId × Value -> H} {a : Assume} {C : Checked} {os : Os} {f : FuncId} {fn : Func} {s : ChangeSpec} {conds : List PathCond} {apart fresh handsOn again : Bool} {X : World -> Array Value -> Prop}
  (hX : ∀ (w w' : World) (args : Array Value), w.heap = w'.heap -> X w args -> X w' args) (own : ownKnob C.prog.godebug = none) (started : os.Started) (hfn : C.prog.funcs[f]? = some fn)
  (witness : ∃ (w : World) (tape : Tape) (i : Input), w.os = os /\ (w.forCall tape i).Shaped C.prog /\ i.vars = [] /\ Input.okWide C.prog (w.forCall tape i) .any w.heap.size f i /\
   ((s.pre enc C.prog fn conds apart (w.forCall tape i).memory i.args /\ X (w.forCall tape i).memory i.args) /\ sizedMet enc C.prog fn (OpenSpec.ofChange s) apart (w.forCall tape i).memory i.args) /\ a.holds C.prog (lone (Frame.enter C.prog f i.args .normal) [] (w.forCall tape i)))
  (runs : ∀ (W : World) (base : Nat) (args : Array Value) (ds gs : List (DataW H)) (before : List MemPlace),
   (∀ (j : Nat) t v, fn.params[j]? = some t -> args[j]? = some v -> Value.okWide C.prog W .any base t v) ->
   DataW.Whole enc C.prog fn.params.toList s.vars apart W args.toList ds gs before -> X W args ->
   ∃ M last o w' t', runNT C.prog (M + 1) (solo (G (Frame.enter C.prog f args .normal) []) W) #[] = (.ended o w', t') /\ runN C.prog M (solo (G (Frame.enter C.prog f args .normal) []) W) = .next last /\
    step C.prog last = .ended o w' /\ Conc.Good C.prog (fun v W' => s.post enc C.prog fn apart fresh handsOn again W args v W') last o w' t') :
  ReturnsInLeavingWide a C os f .any (fun w args => (s.pre enc C.prog fn conds apart w args /\ X w args) /\ sizedMet enc C.prog fn (OpenSpec.ofChange s) apart w args) (s.post enc C.prog fn apart fresh handsOn again) := by
 refine returnsInLeavingWide_of_good own started witness ?_
 intro w tape i _ _ _ hok hpre _
 obtain ⟨_, _, _, fn', hfn', _, _, _, _, hval⟩ := hok
 have e : fn' = fn := Option.some.inj (hfn'.symm.trans hfn)
 subst e
 obtain ⟨⟨⟨ds, gs, before, hw, _⟩, hx⟩, _⟩ := hpre
 have hw' := DataW.Whole.of_heap (w' := w.forCall tape i) (by rfl) hw
 obtain ⟨M, last, o, w', t', h1, h2, h3, h4⟩ := runs (w.forCall tape i) w.heap.size i.args ds gs before hval hw' (hX _ _ _ (by rfl) hx)
 exact ⟨M, last, o, w', t', h1, h2, h3, h4.mono fun v hp => ChangeSpec.post_blind hp⟩
end Go
namespace Go.Proofs.YtaikibfkggglgaaDoor
open Go.RowKit Go.Rent Go.Tp Go.Conc Go.ChangeShapes Go.WideShapes Go.ChangeAt
theorem own_knob : ownKnob tP.godebug = none := by kernel_rfl
theorem laid_out : laidOutB tP = true := by kernel_rfl
theorem gl0 : tP.globalNamed "baudot/rent.fewest" = some 0 := by kernel_rfl
theorem gl1 : tP.globalNamed "baudot/rent.most" = some 1 := by kernel_rfl
theorem gl2 : tP.globalNamed "baudot/rent.checks" = some 2 := by kernel_rfl
theorem gt0 : (tP.globals[0]?).map (·.type) = some 98 := by kernel_rfl
theorem gt1 : (tP.globals[1]?).map (·.type) = some 98 := by kernel_rfl
theorem gt2 : (tP.globals[2]?).map (·.type) = some 102 := by kernel_rfl
abbrev laidV {H : Type} : List (String × DataW H) := [("baudot/rent.checks", Rows.laid_baudot_rent_checks), ("baudot/rent.fewest", Rows.laid_baudot_rent_fewest), ("baudot/rent.most", Rows.laid_baudot_rent_most)]
theorem door_met (os : Os) (args : Array Value) : laidMetH tP laidV ((World.doorLaid tP 600 os).forCall (fun _ _ => 0) ⟨#[], args, []⟩).memory :=
 laidMetH_of_parts3 (fuel := 8) (laidMet_of_run' 8 (by kernel_rfl) (by kernel_rfl)) (by kernel_rfl) (by kernel_rfl)
theorem vars_of {W : World} (h : laidMetH tP laidV W) : Vars W := by
 obtain ⟨g2, t2, cs2, f2, p2, hg2, ht2, hv2, hd2⟩ := h.funcs (n := "baudot/rent.checks") (List.mem_cons_self ..)
 obtain ⟨g0, t0, cs0, f0, p0, hg0, ht0, hv0, hd0⟩ := h.funcs (n := "baudot/rent.fewest") (List.mem_cons_of_mem _ (List.mem_cons_self ..))
 obtain ⟨g1, t1, cs1, f1, p1, hg1, ht1, hv1, hd1⟩ := h.funcs (n := "baudot/rent.most") (List.mem_cons_of_mem _ (List.mem_cons_of_mem _ (List.mem_cons_self ..)))
 obtain rfl := Option.some.inj (gl0.symm.trans hg0)
 obtain rfl := Option.some.inj (gl1.symm.trans hg1)
 obtain rfl := Option.some.inj (gl2.symm.trans hg2)
 obtain rfl := Option.some.inj (gt0.symm.trans ht0)
 obtain rfl := Option.some.inj (gt1.symm.trans ht1)
 obtain rfl := Option.some.inj (gt2.symm.trans ht2)
 have st : ∀ {cs : List Value} {fuel : Nat} {l : List UInt8} {q : List MemPlace}, DataW.trod (funcToken tP) tP W 0 (fun _ => true) true fuel 98 cs = some (.agg [.held l], q) -> ∃ v n q', cs = [v] /\ DataW.trod (funcToken tP) tP W 0 (fun _ => true) true n 96 [v] = some (.held l, q') := by
  intro cs fuel l q hd
  obtain ⟨xs, n, _, hx, hlen, hxl, hf⟩ := DataW.trod_struct Tryd.underlying98 hd
  have c98 : tP.cellsOf 98 = 1 := by kernel_rfl
  have c96 : tP.cellsOf 96 = 1 := by kernel_rfl
  rw [c98] at hlen
  match cs, hlen with
  | [v], _ =>
   have h0 := hf 0 _ rfl
   match xs, hxl, hx, h0 with
   | [x0], _, hx, h0 =>
    simp only [Prod.mk.injEq, DataW.agg.injEq, List.map_cons, List.map_nil, List.cons.injEq, and_true] at hx
    obtain ⟨x0d, x0p⟩ := x0
    obtain ⟨e1, _⟩ := hx
    simp only at e1
    subst e1
    have h1 : DataW.trod (funcToken tP) tP W 0 (fun _ => true) true n 96 (([v].drop 0).take (tP.cellsOf 96)) = some (.held l, x0p) := h0
    rw [c96] at h1
    exact ⟨v, n, x0p, rfl, h1⟩
 obtain ⟨v0, n0, q0, e0, r0⟩ := st hd0
 obtain ⟨v1, n1, q1, e1, r1⟩ := st hd1
 have k0 := func_of_trod (f0 := 144) Tryd.underlying96 (by kernel_rfl) r0
 have k1 := func_of_trod (f0 := 145) Tryd.underlying96 (by kernel_rfl) r1
 subst k0 k1
 obtain ⟨xs, n, _, hx, hlen, hxl, hf⟩ := DataW.trod_array Tryd.underlying102 hd2
 have c101 : tP.cellsOf 101 = 1 := by kernel_rfl
 have c102 : tP.cellsOf 102 = 4 := by kernel_rfl
 rw [c102] at hlen
 have cell : ∀ {g : Nat} {n : String} {cs : Array Value} {k : Nat} {v : Value}, tP.globalNamed n = some g -> W.var? tP n = some cs -> cs.toList[k]? = some v -> W.cell? ⟨g, k, none⟩ = some v := fun hg hv hk => by
  rw [World.var?_cell hg hv]
  simpa using hk
 generalize hl2 : cs2.toList = l2 at *
 match l2, hlen, xs, hxl with
 | [a0, a1, a2, a3], _, [x0, x1, x2, x3], _ =>
  have z0 := hf 0 (by decide)
  have z1 := hf 1 (by decide)
  have z2 := hf 2 (by decide)
  have z3 := hf 3 (by decide)
  rw [c101] at z0 z1 z2 z3
  simp only [Prod.mk.injEq] at hx
  have hx1 := hx.1
  simp only [DataW.funcsOut, DataW.funcsOutAll, DataW.agg.injEq, List.map_cons, List.map_nil, List.cons.injEq, and_true] at hx1
  obtain ⟨y0, y1, y2, y3⟩ := hx1
  obtain ⟨x0d, x0p⟩ := x0
  obtain ⟨x1d, x1p⟩ := x1
  obtain ⟨x2d, x2p⟩ := x2
  obtain ⟨x3d, x3p⟩ := x3
  simp only at y0 y1 y2 y3
  subst y0 y1 y2 y3
  have w0 := func_of_trod (f0 := 146) Tryd.underlying101 (by kernel_rfl) z0
  have w1 := func_of_trod (f0 := 147) Tryd.underlying101 (by kernel_rfl) z1
  have w2 := func_of_trod (f0 := 148) Tryd.underlying101 (by kernel_rfl) z2
  have w3 := func_of_trod (f0 := 149) Tryd.underlying101 (by kernel_rfl) z3
  subst w0 w1 w2 w3
  exact ⟨⟨cell hg2 hv2 (by rw [hl2]; rfl), cell hg2 hv2 (by rw [hl2]; rfl), cell hg2 hv2 (by rw [hl2]; rfl), cell hg2 hv2 (by rw [hl2]; rfl)⟩, cell hg0 hv0 (by rw [e0]; rfl), cell hg1 hv1 (by rw [e1]; rfl), by
   have := World.block_lt_of_cell? _ _ (cell (k := 0) hg2 hv2 (by rw [hl2]; rfl))
   have hs : tP.globals.size = 3 := by kernel_rfl
   rw [hs]; exact this⟩
theorem tame_cell (W : World) (a : Addr) : (tame W).cell? a = W.cell? a := by
 have := tp_cell? (tame W) W.tape W.drawn (tameJ_ok W) a
 rw [tame_tp] at this
 exact this.symm
theorem vars_tame {W : World} (h : Vars W) : Vars (tame W) :=
 ⟨⟨by rw [tame_cell]; exact h.v2.c0, by rw [tame_cell]; exact h.v2.c1, by rw [tame_cell]; exact h.v2.c2, by rw [tame_cell]; exact h.v2.c3⟩, by rw [tame_cell]; exact h.g0, by rw [tame_cell]; exact h.g1, by rw [tame_size]; exact h.gl⟩
theorem rows_tame {W : World} {V : BkV} (h : BkRows W V) : BkRows (tame W) V := by
 have r : ∀ {o : Option Addr}, RowAt W o -> RowAt (tame W) o := fun h a ha => by
  obtain ⟨c, t, z, e⟩ := h a ha
  exact ⟨c, t, z, tame_cells e⟩
 exact ⟨r h.ta, r h.la, r h.pa⟩
theorem SlB.of_cell {u w : World} (hc : ∀ a, u.cell? a = w.cell? a) {sa : Option Addr} {xs : List (Int × Int)} (h : SlB w sa xs) : SlB u sa xs := fun i x hx => by obtain ⟨b, o, e, h0, h1⟩ := h i x hx; exact ⟨b, o, e, by rw [hc]; exact h0, by rw [hc]; exact h1⟩
theorem BkRaw.of_cell {u w : World} (hc : ∀ a, u.cell? a = w.cell? a) {V : BkV} {B : Bk} (h : BkRaw w V B) : BkRaw u V B :=
 ⟨fun i x hx => by obtain ⟨b, o, e, h0⟩ := h.towns i x hx; exact ⟨b, o, e, by rw [hc]; exact h0⟩, fun i L hL => by
  obtain ⟨b, o, sa, sc, h1, h2, h3, h4, h5, h6⟩ := h.links i L hL
  exact ⟨b, o, sa, sc, h1, by rw [hc]; exact h2, by rw [hc]; exact h3, by rw [hc]; exact h4, h5.of_cell hc, h6⟩, fun i L hL => by
  obtain ⟨b, o, sa, sc, h1, h2, h3, h4, h5, h6⟩ := h.pairs i L hL
  exact ⟨b, o, sa, sc, h1, by rw [hc]; exact h2, by rw [hc]; exact h3, by rw [hc]; exact h4, h5.of_cell hc, h6⟩, h.tc, h.nl, h.np, h.sz, h.pc⟩
theorem below_end {W w : World} {τ : Nat -> Question -> Nat} {d d' : Nat} {j : Junk} (hj : ∀ n, n < (tame W).heap.size -> j n = tameJ W n) (hk : Kept (tame W).heap.size (tame W) (w.tp τ d noJ)) : Below W.heap.size W (w.tp W.tape d' j) := by
 have hW : W = (tame W).tp W.tape W.drawn (tameJ W) := (tame_tp W).symm
 refine ⟨?_, rfl, ?_, ?_, fun k hlt => ?_⟩
 ·have := hk.os
  rw [tp_os] at this ⊢
  rw [this]; rfl
 ·have := hk.output
  rw [tp_output] at this ⊢
  rw [this]; rfl
 ·have := hk.size
  rw [tp_size] at this
  rw [tp_size, <- tame_size W]
  exact this
 ·have hlt' : k < (tame W).heap.size := by rw [tame_size]; exact hlt
  have hb := hk.block k hlt'
  rw [tp_noJ_heap] at hb
  conv => rhs; rw [hW]
  rw [tp_heap, tp_heap, hb]
  congr 1
  funext o
  unfold fillAt
  rw [hj k hlt']
theorem law_post {H : Type} {enc : TypeId × Value -> H} {fn : Func} {s : ChangeSpec} {W w' : World} {args : Array Value} {ds : List (DataW H)} {ps : List MemPlace} (hrt : fn.resultTypes = #[4]) (hW : DataW.Whole enc tP fn.params.toList s.vars false W args.toList ds [] ps)
  (hargs : ∀ W' : World, Below W.heap.size W W' -> ∃ pa, DataW.TrodAll enc tP W' 0 (fun b => decide (b < W.heap.size)) true fn.params.toList args.toList ds pa)
  (hsv : s.vars = []) (hsp : s.fn H (ds ++ []) = { results := [.lit (.bool true)], args := ds }) (hb : Below W.heap.size W w') : s.post enc tP fn false true false false W args (.bool true) w' := by
 obtain ⟨pa, ha⟩ := hargs w' hb
 refine ⟨ds, [], ps, [], pa, [], hW, ?_, ?_, ?_, hb.frame _, fun h => by cases h⟩
 ·rw [hsp, hrt]; exact trodAll_mk1 (shut_bool Tryd.underlying4 true)
 ·rw [hsp]; exact ha
 ·rw [hsv, hsp]; rfl
theorem SlH.of_cell {u w : World} (hc : ∀ a, u.cell? a = w.cell? a) {sa : Option Addr} {xs : List Int} (h : SlH w sa xs) : SlH u sa xs := fun i x hx => by obtain ⟨b, o, e, h0⟩ := h i x hx; exact ⟨b, o, e, by rw [hc]; exact h0⟩
theorem app_rep (a b c : Value) (n : Nat) : (#[a, b, c] ++ Array.replicate n undef : Array Value) = (a :: b :: c :: List.replicate n undef).toArray := by simp
set_option maxHeartbeats 1000000 in
theorem moreTrunks_lifted (os : Os) (started : os.Started) (H : Type) (enc : TypeId × Value -> H) :
  ReturnsInLeavingWide {} Tryd.checked os 8 .any (fun w args => (Rows.rentMoreTrunksSpec.pre enc tP Tryd.f8 [] false w args /\ laidMetH tP laidV w) /\ sizedMet enc tP Tryd.f8 (OpenSpec.ofChange Rows.rentMoreTrunksSpec) false w args)
   (Rows.rentMoreTrunksSpec.post enc tP Tryd.f8 false true false false) := by
 refine leaving_and (C := Tryd.checked) (X := fun w _ => laidMetH tP laidV w) (fun _ _ _ hh h => h.of_heap hh) own_knob started Tryd.func8
  (ChangeSpec.witness_shaped (enc := enc) (C := Tryd.checked) (os := os) (X := fun w _ => laidMetH tP laidV w) false (World.doorLaid tP 600 os) #[.agg #[.int .i64 0, .slice none 0 0, .slice none 0 0, .slice none 0 0], .slice none 0 0, .int .u8 0] 8 rfl (World.shaped_of_RefB (by kernel_rfl) (by kernel_rfl)) (by kernel_rfl) (by kernel_rfl) (by kernel_rfl) (door_met os _)) ?_
 intro W base args ds gs before hval0 hW hL
 have hval : ∀ (j : Nat) t v, Tryd.f8.params[j]? = some t -> args[j]? = some v -> Value.okWide tP W .any base t v := hval0
 have hW' := hW
 obtain ⟨p, q, hA0, hV, rfl, _, _⟩ := hW
 have hA : DataW.TrodAll enc tP W 0 (fun _ => true) true Tryd.f8.params.toList args.toList ds p := hA0
 rw [Tryd.params8] at hA hval
 obtain ⟨v0, v1, v2, d0, d1, d2, p0, p1, p2, rfl, rfl, rfl, h0, h1, h2⟩ := trodAll_three hA
 obtain ⟨rfl, rfl⟩ := trodVars_none hV
 obtain ⟨V, B, rfl, hB, hR⟩ := open_book (hval 0 26 v0 rfl rfl) h0
 obtain ⟨sa, ps, cap, rfl, _, hl, hP, hb⟩ := open_picks (hval 1 47 v1 rfl rfl) h1
 obtain ⟨n, rfl, rfl, rfl, hwn⟩ := open_int Tryd.underlying5 (hval 2 5 v2 rfl rfl) h2
 have hn : 0 <= n /\ n <= 255 := by simpa [Lit.wf, IntKind.min, IntKind.max, IntKind.signed, IntKind.bits] using hwn
 have hv := vars_of hL
 simp only [List.append_nil] at hW'
 have hlt : ∀ x ∈ p0 ++ p1, x.block < W.heap.size := fun x hx => hW'.lt x hx
 have hgl := mt_law V B ps sa cap n (tame W) hn (hB.of_cell (tame_cell W)) (rows_tame hR) (vars_tame hv) (hP.of_cell (tame_cell W)) hb (by omega)
 refine good_run good Tryd.func8 (x := mtBody) (by rfl) (by kernel_rfl) (fun t => ⟨_, by simp [results, Tryd.results8]; rfl⟩) W _ (LawR (tame W)) _ (fun v w τ d d' j _ _ hj hr => ?_) ?_
 ·obtain ⟨rfl, hk⟩ := hr
  refine law_post (ds := [d0, d1, .lit (.int .u8 n)]) (by kernel_rfl) hW' (fun W' hbl => ⟨p0 ++ (p1 ++ []), ?_⟩) rfl rfl (below_end hj hk)
  rw [Tryd.params8]
  exact trodAll_mk3 (Below.trod laid_out (by kernel_rfl) (of_decide_eq_true (by kernel_rfl)) h0 hbl fun x hx => hlt x (by simp [hx])) (Below.trod laid_out (by kernel_rfl) (of_decide_eq_true (by kernel_rfl)) h1 hbl fun x hx => hlt x (by simp [hx])) (shut_int Tryd.underlying5 hwn)
 ·rw [show Tryd.f8.ntmps - (#[V.val B, .slice sa ps.length cap, .int .u8 n] : Array Value).size = 136 from by rw [Tryd.ntmps8]; rfl, app_rep]
  exact hgl
theorem moreTrunks_holds : Rows.RentMoreTrunksSaid :=
 OpenClaim.holds_of_wide_leaving 8 Tryd.f8 rfl rfl rfl rfl rfl rfl rfl ⟨rfl, rfl, rfl, rfl, rfl⟩ rfl rfl rfl rfl rfl (by kernel_rfl) Tryd.func8 (by kernel_rfl)
  (of_decide_eq_true (by kernel_rfl)) (by unfold Func.isWrapper; first | (rw [if_pos (by decide +kernel)]; kernel_rfl) | (rw [if_neg (by decide +kernel)]; exact ⟨rfl, rfl⟩))
  (fun os started H enc _ => moreTrunks_lifted os started H enc)
theorem tied_goes (Lk : Looks) {p : Pinned} {s : OpenSpec} {c : OpenClaim} (kinds : List LaidKind) (tests : Bool) (har : Bool × String) (lk : Bool)
  (hc : c.holds p s) (hw : c.wfByText s = true) (htie : c.laidByTextAt Lk p kinds tests) (hst : c.start = .entering) (hnb : c.noBlocks = false /\ c.again = false) (hm : p.checked.prog.mainIs = some (har.1, har.2.toList)) (hn : (!har.1 && har.2.isEmpty && !lk) = false)
  (hl : ∀ f fn, p.checked.prog.funcNamed c.func = some f -> p.checked.prog.funcs[f]? = some fn -> lk = p.checked.prog.looks [] /\ ∀ (j : Nat) t, fn.params[j]? = some t -> p.checked.prog.wantsStandIn t = false) (hg : true = c.goesBy p.checked.prog) :
  Claim7.holds p (.plain s) { stood := { row := c, standIns := [], harness := har, looks := lk }, kinds := [], laidByText := true, laidKinds := kinds, laidTests := tests, laidLooks := Lk, goes := true } := by
 have h6 : Claim7.isSixth { stood := { row := c, standIns := [], harness := har, looks := lk }, kinds := [] } = false := by simpa [Claim7.isSixth] using hn
 exact ⟨Claim7.tied_new_at Lk kinds tests (Claim7.new_of_sixth hc har lk hst hnb hm h6 hl) hw, (fun D hD => by cases hD), htie, (fun h => by cases h), hg⟩
theorem moreTrunks_card : Rows.RentMoreTrunksCardSaid :=
 tied_goes .later [.funcs, .funcs, .funcs] true (true, "72ef7cba7f7fd8f165ce5e08d99ae6adf001f8a416de6ee8962cf05e685c9f16") false
  moreTrunks_holds (by kernel_rfl) rentMoreTrunks_row_tie rfl ⟨rfl, rfl⟩ (by kernel_rfl) rfl
  (fun f fn hf hfn => by
   obtain rfl : f = 8 := Option.some.inj ((show tP.funcNamed "baudot/baudotlaw09.RentMoreTrunks" = some 8 by kernel_rfl).symm.trans hf) |>.symm
   obtain rfl : fn = Tryd.f8 := (Option.some.inj (Tryd.func8.symm.trans hfn)).symm
   exact ⟨by kernel_rfl, fun j t ht => by
    rw [Tryd.params8] at ht
    match j, ht with
    | 0, ht => cases ht; exact (show tP.wantsStandIn 26 = false by kernel_rfl)
    | 1, ht => cases ht; exact (show tP.wantsStandIn 47 = false by kernel_rfl)
    | 2, ht => cases ht; exact (show tP.wantsStandIn 5 = false by kernel_rfl)⟩)
  (by kernel_rfl)
#print axioms moreTrunks_card
end Go.Proofs.YtaikibfkggglgaaDoor
