/- A part of the proof of RentMoreTrunks; no conditions of its own. -/
import Derived.Test.YtaikibfkggglgaaDoorX04
import Derived.Conc.Listed
import Derived.DyingOn
set_option maxRecDepth 100000
open Nat renaming le_refl → nR
namespace Go.Tp
section
variable (P : Program)
theorem c_Builtin_unsafeAdd_ (t : Array TypeId) (u : TypeId) (a : Array Value) : CalmT P (Builtin.unsafeAdd_ t u a) := by
 obtain ⟨l⟩ := a
 rcases l with _ | ⟨x0, _ | ⟨x1, _ | ⟨x2, r⟩⟩⟩
 ·exact trivial
 ·exact trivial
 ·cases x0 with
  | pointer p =>
   show CalmT P (asInt x1 >>= _)
   refine calmT_bind IsCalm.out (fun _ => ?_)
   exact ac P
  | _ => exact trivial
 ·exact trivial
instance i_c_Builtin_unsafeAdd_ (t : Array TypeId) (u : TypeId) (a : Array Value) : IsCalm P (Builtin.unsafeAdd_ t u a) := ⟨c_Builtin_unsafeAdd_ P t u a⟩
theorem c_Conv_floatToFloat (k : FloatKind) (x : Nat) (d : FloatKind) : CalmT P (Conv.floatToFloat k x d) := by
 unfold Conv.floatToFloat
 exact ac P
instance i_c_Conv_floatToFloat (k : FloatKind) (x : Nat) (d : FloatKind) : IsCalm P (Conv.floatToFloat k x d) := ⟨c_Conv_floatToFloat P k x d⟩
theorem c_movedNumber (t : TypeId) (x y : Value) : CalmT P (movedNumber t x y) := by
 unfold movedNumber
 exact ac P
instance i_c_movedNumber (t : TypeId) (x y : Value) : IsCalm P (movedNumber t x y) := ⟨c_movedNumber P t x y⟩
theorem c_movedPointer (t : TypeId) (x y : Value) : CalmT P (movedPointer t x y) := by
 unfold movedPointer
 exact ac P
instance i_c_movedPointer (t : TypeId) (x y : Value) : IsCalm P (movedPointer t x y) := ⟨c_movedPointer P t x y⟩
theorem c_Op_Complex_cmp (o : BinOp) (k : FloatKind) (x y : Nat) : CalmT P (Op.Complex.cmp o k x y) := by
 unfold Op.Complex.cmp
 exact ac P
instance i_c_Op_Complex_cmp (o : BinOp) (k : FloatKind) (x y : Nat) : IsCalm P (Op.Complex.cmp o k x y) := ⟨c_Op_Complex_cmp P o k x y⟩
theorem c_Op_Complex_conv (k : FloatKind) (x : Nat) (k2 : FloatKind) : CalmT P (Op.Complex.conv k x k2) := by
 unfold Op.Complex.conv
 exact ac P
instance i_c_Op_Complex_conv (k : FloatKind) (x : Nat) (k2 : FloatKind) : IsCalm P (Op.Complex.conv k x k2) := ⟨c_Op_Complex_conv P k x k2⟩
theorem c_Op_Complex_product (a b c d : Nat) : CalmT P (Op.Complex.product a b c d) := by
 unfold Op.Complex.product
 exact ac P
instance i_c_Op_Complex_product (a b c d : Nat) : IsCalm P (Op.Complex.product a b c d) := ⟨c_Op_Complex_product P a b c d⟩
theorem c_Op_Complex_corrected (s a b c d : Nat) : CalmT P (Op.Complex.corrected s a b c d) := by
 unfold Op.Complex.corrected
 exact ac P
instance i_c_Op_Complex_corrected (s a b c d : Nat) : IsCalm P (Op.Complex.corrected s a b c d) := ⟨c_Op_Complex_corrected P s a b c d⟩
theorem c_Op_Complex_quotient (a b c d : Nat) : CalmT P (Op.Complex.quotient a b c d) := by
 unfold Op.Complex.quotient
 exact ac P
instance i_c_Op_Complex_quotient (a b c d : Nat) : IsCalm P (Op.Complex.quotient a b c d) := ⟨c_Op_Complex_quotient P a b c d⟩
theorem c_Op_complexOp (o : BinOp) (k : FloatKind) (a b c d : Nat) : CalmT P (Op.complexOp o k a b c d) := by
 unfold Op.complexOp
 exact ac P
instance i_c_Op_complexOp (o : BinOp) (k : FloatKind) (a b c d : Nat) : IsCalm P (Op.complexOp o k a b c d) := ⟨c_Op_complexOp P o k a b c d⟩
theorem c_binOp (o : BinOp) (t : TypeId) (x y : Value) : CalmT P (binOp o t x y) := by
 unfold binOp
 exact ac P
instance i_c_binOp (o : BinOp) (t : TypeId) (x y : Value) : IsCalm P (binOp o t x y) := ⟨c_binOp P o t x y⟩
theorem c_Conv_intToInt (k : IntKind) (x : Int) : CalmT P (Conv.intToInt k x) := by
 unfold Conv.intToInt
 exact ac P
instance i_c_Conv_intToInt (k : IntKind) (x : Int) : IsCalm P (Conv.intToInt k x) := ⟨c_Conv_intToInt P k x⟩
theorem c_Conv_intToFloat (k : FloatKind) (x : Int) : CalmT P (Conv.intToFloat k x) := by
 unfold Conv.intToFloat
 exact ac P
instance i_c_Conv_intToFloat (k : FloatKind) (x : Int) : IsCalm P (Conv.intToFloat k x) := ⟨c_Conv_intToFloat P k x⟩
theorem c_Conv_floatToInt (k : FloatKind) (x : Nat) (d : IntKind) : CalmT P (Conv.floatToInt k x d) := by
 unfold Conv.floatToInt
 exact ac P
instance i_c_Conv_floatToInt (k : FloatKind) (x : Nat) (d : IntKind) : IsCalm P (Conv.floatToInt k x d) := ⟨c_Conv_floatToInt P k x d⟩
theorem c_Conv_complexToComplex (k : FloatKind) (x y : Nat) (d : FloatKind) : CalmT P (Conv.complexToComplex k x y d) := by
 unfold Conv.complexToComplex
 exact ac P
instance i_c_Conv_complexToComplex (k : FloatKind) (x y : Nat) (d : FloatKind) : IsCalm P (Conv.complexToComplex k x y d) := ⟨c_Conv_complexToComplex P k x y d⟩
theorem c_Conv_intToString (x : Int) : CalmT P (Conv.intToString x) := by
 unfold Conv.intToString
 exact ac P
instance i_c_Conv_intToString (x : Int) : IsCalm P (Conv.intToString x) := ⟨c_Conv_intToString P x⟩
theorem c_Conv_stringToBytes (t : TypeId) (x : ByteArray) : CalmT P (Conv.stringToBytes t x) := by
 unfold Conv.stringToBytes
 exact ac P
instance i_c_Conv_stringToBytes (t : TypeId) (x : ByteArray) : IsCalm P (Conv.stringToBytes t x) := ⟨c_Conv_stringToBytes P t x⟩
theorem c_Conv_stringToRunes (t : TypeId) (x : ByteArray) : CalmT P (Conv.stringToRunes t x) := by
 unfold Conv.stringToRunes
 exact ac P
instance i_c_Conv_stringToRunes (t : TypeId) (x : ByteArray) : IsCalm P (Conv.stringToRunes t x) := ⟨c_Conv_stringToRunes P t x⟩
theorem c_Conv_bytesToString (x : Value) : CalmT P (Conv.bytesToString x) := by
 unfold Conv.bytesToString
 exact ac P
instance i_c_Conv_bytesToString (x : Value) : IsCalm P (Conv.bytesToString x) := ⟨c_Conv_bytesToString P x⟩
theorem c_Conv_runesToString (x : Value) : CalmT P (Conv.runesToString x) := by
 unfold Conv.runesToString
 exact ac P
instance i_c_Conv_runesToString (x : Value) : IsCalm P (Conv.runesToString x) := ⟨c_Conv_runesToString P x⟩
theorem c_Conv_seenAt (x : Addr) : CalmT P (Conv.seenAt x) := by
 unfold Conv.seenAt
 exact ac P
instance i_c_Conv_seenAt (x : Addr) : IsCalm P (Conv.seenAt x) := ⟨c_Conv_seenAt P x⟩
theorem c_Conv_unsafePointer (t u : TypeId) (x : Value) : CalmT P (Conv.unsafePointer t u x) := by
 unfold Conv.unsafePointer
 exact ac P
instance i_c_Conv_unsafePointer (t u : TypeId) (x : Value) : IsCalm P (Conv.unsafePointer t u x) := ⟨c_Conv_unsafePointer P t u x⟩
theorem c_convert (t u : TypeId) (x : Value) : CalmT P (convert t u x) := by
 unfold Go.convert
 exact ac P
instance i_c_convert (t u : TypeId) (x : Value) : IsCalm P (convert t u x) := ⟨c_convert P t u x⟩
theorem c_Instr_makeInterface (t : TypeId) (x : Value) : CalmT P (Instr.makeInterface t x) := by
 unfold Instr.makeInterface
 exact ac P
instance i_c_Instr_makeInterface (t : TypeId) (x : Value) : IsCalm P (Instr.makeInterface t x) := ⟨c_Instr_makeInterface P t x⟩
theorem c_Instr_makeFunc (f : Fn) (x y : Array Value) : CalmT P (Instr.makeFunc f x y) := by
 unfold Instr.makeFunc
 exact ac P
instance i_c_Instr_makeFunc (f : Fn) (x y : Array Value) : IsCalm P (Instr.makeFunc f x y) := ⟨c_Instr_makeFunc P f x y⟩
theorem c_Instr_makeMap (t : TypeId) (x : Option Value) : CalmT P (Instr.makeMap t x) := by
 unfold Instr.makeMap
 exact ac P
instance i_c_Instr_makeMap (t : TypeId) (x : Option Value) : IsCalm P (Instr.makeMap t x) := ⟨c_Instr_makeMap P t x⟩
theorem c_Instr_makeChan (t : TypeId) : CalmT P (Instr.makeChan t (.int .i64 0)) := by
 unfold Instr.makeChan
 have e : asInt (.int .i64 0) = pure 0 := rfl
 rw [e, pure_bind]
 refine calmT_bind IsCalm.out fun u => ?_
 split
 ·refine calmT_bind IsCalm.out fun i => ?_
  refine calm_ite (fun _ => ?_) (fun _ => ?_)
  ·exact calmT_bind IsCalm.out fun _ => calmT_bind (calm_newObj P ⟨⟨rfl, rfl, rfl, rfl⟩, rfl⟩) fun _ => calm_pure P _
  ·exact calmT_bind (calm_newObj P ⟨⟨rfl, rfl, rfl, rfl⟩, rfl⟩) fun _ => calm_pure P _
 ·exact calm_stuck P _ _
instance i_makeChan (t : TypeId) : IsCalm P (Instr.makeChan t (.int .i64 0)) := ⟨c_Instr_makeChan P t⟩
theorem c_Instr_makeSlice (t : TypeId) (x y : Value) : CalmT P (Instr.makeSlice t x y) := by
 unfold Instr.makeSlice
 exact ac P
instance i_c_Instr_makeSlice (t : TypeId) (x y : Value) : IsCalm P (Instr.makeSlice t x y) := ⟨c_Instr_makeSlice P t x y⟩
theorem c_checkKey (e : Bool) : ∀ (d : Nat) (t : TypeId) (x : Value), CalmT P (Instr.checkKey e d t x)
 | 0, _, _ => trivial
 | d + 1, t, x => by
  have ih := c_checkKey e d
  haveI : ∀ t x, IsCalm P (Instr.checkKey e d t x) := fun t x => ⟨ih t x⟩
  clear ih
  unfold Instr.checkKey
  exact ac P
instance i_checkKey (e : Bool) (d : Nat) (t : TypeId) (x : Value) : IsCalm P (Instr.checkKey e d t x) := ⟨c_checkKey P e d t x⟩
theorem c_findAsking (t : TypeId) (k : Value) : ∀ (es : List MapEntry) (i : Nat), CalmT P (Instr.findAsking t k es i)
 | [], _ => trivial
 | e :: es, i => by
  have ih := c_findAsking t k es
  haveI : ∀ i, IsCalm P (Instr.findAsking t k es i) := fun i => ⟨ih i⟩
  clear ih
  unfold Instr.findAsking
  exact ac P
instance i_findAsking (t : TypeId) (k : Value) (es : List MapEntry) (i : Nat) : IsCalm P (Instr.findAsking t k es i) := ⟨c_findAsking P t k es i⟩
theorem c_Instr_findKey (t : TypeId) (k : Value) (es : List MapEntry) : CalmT P (Instr.findKey t k es) := by
 unfold Instr.findKey
 exact ac P
instance i_c_Instr_findKey (t : TypeId) (k : Value) (es : List MapEntry) : IsCalm P (Instr.findKey t k es) := ⟨c_Instr_findKey P t k es⟩
theorem c_Instr_lookup (t : TypeId) (x y : Value) (b : Bool) : CalmT P (Instr.lookup t x y b) := by
 unfold Instr.lookup
 exact ac P
instance i_c_Instr_lookup (t : TypeId) (x y : Value) (b : Bool) : IsCalm P (Instr.lookup t x y b) := ⟨c_Instr_lookup P t x y b⟩
theorem c_Instr_keyThatStays (x y : Value) : CalmT P (Instr.keyThatStays x y) := by
 unfold Instr.keyThatStays
 exact ac P
instance i_c_Instr_keyThatStays (x y : Value) : IsCalm P (Instr.keyThatStays x y) := ⟨c_Instr_keyThatStays P x y⟩
theorem c_Instr_mapUpdate (t : TypeId) (x y z : Value) : CalmT P (Instr.mapUpdate t x y z) := by
 unfold Instr.mapUpdate
 exact ac P
instance i_c_Instr_mapUpdate (t : TypeId) (x y z : Value) : IsCalm P (Instr.mapUpdate t x y z) := ⟨c_Instr_mapUpdate P t x y z⟩
theorem c_Instr_mapEntry (t : TypeId) (x y : Value) : CalmT P (Instr.mapEntry t x y) := by
 unfold Instr.mapEntry
 exact ac P
instance i_c_Instr_mapEntry (t : TypeId) (x y : Value) : IsCalm P (Instr.mapEntry t x y) := ⟨c_Instr_mapEntry P t x y⟩
theorem c_Instr_entryStore (t : TypeId) (x y z : Value) : CalmT P (Instr.entryStore t x y z) := by
 unfold Instr.entryStore
 exact ac P
instance i_c_Instr_entryStore (t : TypeId) (x y z : Value) : IsCalm P (Instr.entryStore t x y z) := ⟨c_Instr_entryStore P t x y z⟩
theorem c_Instr_next (x : Value) (b : Bool) (t : TypeId) : CalmT P (Instr.next x b t) := by
 unfold Instr.next
 exact ac P
instance i_c_Instr_next (x : Value) (b : Bool) (t : TypeId) : IsCalm P (Instr.next x b t) := ⟨c_Instr_next P x b t⟩
theorem c_Instr_range (t : TypeId) (x : Value) : CalmT P (Instr.range t x) := by
 unfold Instr.range
 refine calmT_bind (c_underlying P _) fun d => ?_
 have k : ∀ s : Sem Obj, Calm P (fun o => o.started /\ isFin o = false) s -> CalmT P (s >>= fun it => newObj it >>= fun r => (pure (Value.pointer (some ⟨r, 0, none⟩)) : Sem Value)) :=
  fun s hs => calm_bind hs fun o ho => calmT_bind (calm_newObj P ho) fun _ => calm_pure P _
 dsimp only
 split
 ·exact k _ ⟨trivial, rfl⟩
 ·exact k _ ⟨trivial, rfl⟩
 ·refine calm_getBind _ (fun o _ => ?_) (.inl ⟨_, rfl⟩)
  split
  ·exact k _ ⟨trivial, rfl⟩
  ·exact k _ (calm_stuck P _ _)
 ·exact k _ (calm_stuck P _ _)
instance i_c_Instr_range (t : TypeId) (x : Value) : IsCalm P (Instr.range t x) := ⟨c_Instr_range P t x⟩
theorem c_Instr_typeAssert (x : Value) (t u : TypeId) (b : Bool) : CalmT P (Instr.typeAssert x t u b) := by
 unfold Instr.typeAssert
 exact ac P
instance i_c_Instr_typeAssert (x : Value) (t u : TypeId) (b : Bool) : IsCalm P (Instr.typeAssert x t u b) := ⟨c_Instr_typeAssert P x t u b⟩
theorem c_Builtin_holdsCells (a : Addr) (n : Nat) : CalmT P (Builtin.holdsCells a n) := by
 unfold Builtin.holdsCells
 exact ac P
instance i_c_Builtin_holdsCells (a : Addr) (n : Nat) : IsCalm P (Builtin.holdsCells a n) := ⟨c_Builtin_holdsCells P a n⟩
theorem c_Builtin_mayShare (a b c : Nat) (d : Option Addr) (x : Value) : CalmT P (Builtin.mayShare a b c d x) := by
 unfold Builtin.mayShare
 exact ac P
instance i_c_Builtin_mayShare (a b c : Nat) (d : Option Addr) (x : Value) : IsCalm P (Builtin.mayShare a b c d x) := ⟨c_Builtin_mayShare P a b c d x⟩
theorem c_Builtin_lenOf (x : Value) : CalmT P (Builtin.lenOf x) := by
 unfold Builtin.lenOf
 exact ac P
instance i_c_Builtin_lenOf (x : Value) : IsCalm P (Builtin.lenOf x) := ⟨c_Builtin_lenOf P x⟩
theorem c_Builtin_firstCells (a b : Nat) (x : Value) : CalmT P (Builtin.firstCells a b x) := by
 unfold Builtin.firstCells
 exact ac P
instance i_c_Builtin_firstCells (a b : Nat) (x : Value) : IsCalm P (Builtin.firstCells a b x) := ⟨c_Builtin_firstCells P a b x⟩
set_option maxHeartbeats 2000000 in
theorem c_Builtin_append_ (t : Array TypeId) (u : TypeId) (a : Array Value) : CalmT P (Builtin.append_ t u a) := by
 unfold Builtin.append_
 exact ac P
instance i_c_Builtin_append_ (t : Array TypeId) (u : TypeId) (a : Array Value) : IsCalm P (Builtin.append_ t u a) := ⟨c_Builtin_append_ P t u a⟩
theorem c_Builtin_clear_ (t : Array TypeId) (u : TypeId) (a : Array Value) : CalmT P (Builtin.clear_ t u a) := by
 unfold Builtin.clear_
 exact ac P
instance i_c_Builtin_clear_ (t : Array TypeId) (u : TypeId) (a : Array Value) : IsCalm P (Builtin.clear_ t u a) := ⟨c_Builtin_clear_ P t u a⟩
theorem c_Builtin_copy_ (t : Array TypeId) (u : TypeId) (a : Array Value) : CalmT P (Builtin.copy_ t u a) := by
 unfold Builtin.copy_
 exact ac P
instance i_c_Builtin_copy_ (t : Array TypeId) (u : TypeId) (a : Array Value) : IsCalm P (Builtin.copy_ t u a) := ⟨c_Builtin_copy_ P t u a⟩
theorem c_Builtin_delete_ (t : Array TypeId) (u : TypeId) (a : Array Value) : CalmT P (Builtin.delete_ t u a) := by
 unfold Builtin.delete_
 exact ac P
instance i_c_Builtin_delete_ (t : Array TypeId) (u : TypeId) (a : Array Value) : IsCalm P (Builtin.delete_ t u a) := ⟨c_Builtin_delete_ P t u a⟩
theorem c_Builtin_len_ (t : Array TypeId) (u : TypeId) (a : Array Value) : CalmT P (Builtin.len_ t u a) := by
 unfold Builtin.len_
 exact ac P
instance i_c_Builtin_len_ (t : Array TypeId) (u : TypeId) (a : Array Value) : IsCalm P (Builtin.len_ t u a) := ⟨c_Builtin_len_ P t u a⟩
theorem c_Builtin_cap_ (t : Array TypeId) (u : TypeId) (a : Array Value) : CalmT P (Builtin.cap_ t u a) := by
 unfold Builtin.cap_
 exact ac P
instance i_c_Builtin_cap_ (t : Array TypeId) (u : TypeId) (a : Array Value) : IsCalm P (Builtin.cap_ t u a) := ⟨c_Builtin_cap_ P t u a⟩
theorem c_Builtin_max2 (x y : Value) : CalmT P (Builtin.max2 x y) := by
 unfold Builtin.max2
 exact ac P
instance i_c_Builtin_max2 (x y : Value) : IsCalm P (Builtin.max2 x y) := ⟨c_Builtin_max2 P x y⟩
theorem c_Builtin_min2 (x y : Value) : CalmT P (Builtin.min2 x y) := by
 unfold Builtin.min2
 exact ac P
instance i_c_Builtin_min2 (x y : Value) : IsCalm P (Builtin.min2 x y) := ⟨c_Builtin_min2 P x y⟩
theorem c_Builtin_max_ (t : Array TypeId) (u : TypeId) (a : Array Value) : CalmT P (Builtin.max_ t u a) := by
 unfold Builtin.max_
 exact ac P
instance i_c_Builtin_max_ (t : Array TypeId) (u : TypeId) (a : Array Value) : IsCalm P (Builtin.max_ t u a) := ⟨c_Builtin_max_ P t u a⟩
theorem c_Builtin_min_ (t : Array TypeId) (u : TypeId) (a : Array Value) : CalmT P (Builtin.min_ t u a) := by
 unfold Builtin.min_
 exact ac P
instance i_c_Builtin_min_ (t : Array TypeId) (u : TypeId) (a : Array Value) : IsCalm P (Builtin.min_ t u a) := ⟨c_Builtin_min_ P t u a⟩
end
def NextOk : Next -> Prop
 | .value _ | .skip | .enter .. | .recover => True
 | .comm _ b _ => b = true
 | .round _ _ _ a b => codeOk false a = true /\ codeOk false b = true
 | .defer d | .spawn d => d.good
 | _ => False
def FuncsCalm (P : Program) : Prop := ∀ f args, Calm P NextOk (callFunc f args)
section
variable {P : Program}
theorem calm_value {s : Sem Value} (h : CalmT P s) : Calm P NextOk (s >>= fun v => pure (Next.value v)) := calmT_bind h fun _ => trivial
theorem calm_unit {s : Sem Unit} (h : CalmT P s) : Calm P NextOk (s >>= fun _ => pure Next.skip) := calmT_bind h fun _ => trivial
theorem c_get (t : TypeId) (p : Place) : CalmT P (p.get t) := by
 cases p with
 | val v => exact trivial
 | var a => exact c_loadVar P t a
theorem c_follow : ∀ (l : List FieldStep) (t : TypeId) (p : Place), CalmT P (follow l t p)
 | [], _, _ => trivial
 | s :: rest, t, x => by
  have ih := c_follow rest
  haveI : ∀ t p, IsCalm P (follow rest t p) := fun t p => ⟨ih t p⟩
  haveI : ∀ t p, IsCalm P (Place.get t p) := fun t p => ⟨c_get t p⟩
  clear ih
  unfold follow
  (repeat' first
  | exact calm_pure _ _
  | exact IsCalm.out
  | (refine calmT_bind ?_ (fun _ => ?_))
  | (refine calm_ite (fun _ => ?_) (fun _ => ?_))
  | split
  | exact trivial
  | dsimp only)
theorem c_wrap (t u : TypeId) (x y z : Value) : CalmT P (Builtin.ssaWrapNilChk_ #[t] u #[x, y, z]) := by
 unfold Builtin.ssaWrapNilChk_
 cases y with
 | string a => cases z with
  | string b =>
   cases x with
   | pointer p =>
    cases p with
    | some p => exact trivial
    | none =>
     show CalmT P (choose (.extern "ssa:wrapnilchk.dereferenced" 2) >>= _)
     refine calmT_bind (calm_choose P _) fun k => ?_
     (repeat' first
     | exact calm_pure _ _
     | exact IsCalm.out
     | (refine calmT_bind ?_ (fun _ => ?_))
     | (refine calm_ite (fun _ => ?_) (fun _ => ?_))
     | split
     | exact trivial
     | dsimp only)
   | _ => exact trivial
  | _ => exact trivial
 | _ => exact trivial
theorem c_receiverAt (t : TypeId) (x : Place) (b : Bool) (o : Option String) : CalmT P (receiverAt t x b o) := by
 haveI : ∀ t p, IsCalm P (Place.get t p) := fun t p => ⟨c_get t p⟩
 haveI : ∀ t u x y z, IsCalm P (Builtin.ssaWrapNilChk_ #[t] u #[x, y, z]) := fun t u x y z => ⟨c_wrap t u x y z⟩
 unfold receiverAt
 (repeat' first
  | exact calm_pure _ _
  | exact IsCalm.out
  | (refine calmT_bind ?_ (fun _ => ?_))
  | (refine calm_ite (fun _ => ?_) (fun _ => ?_))
  | split
  | exact trivial
  | dsimp only)
theorem c_receiverVia (t : TypeId) (v : Value) (p : Array FieldStep) (b : Bool) : CalmT P (receiverVia t v p b) := by
 unfold receiverVia
 exact calmT_bind (c_follow _ _ _) fun _ => c_receiverAt _ _ _ _
theorem c_method : ∀ (n : Nat) (t : TypeId) (v : Value) (s : String), CalmT P (method n t v s)
 | 0, _, _, _ => trivial
 | n + 1, t, v, s => by
  have ih := c_method n
  haveI : ∀ t v s, IsCalm P (method n t v s) := fun t v s => ⟨ih t v s⟩
  haveI : ∀ t p, IsCalm P (Place.get t p) := fun t p => ⟨c_get t p⟩
  haveI : ∀ l t p, IsCalm P (follow l t p) := fun l t p => ⟨c_follow l t p⟩
  haveI : ∀ t x b o, IsCalm P (receiverAt t x b o) := fun t x b o => ⟨c_receiverAt t x b o⟩
  clear ih
  unfold method
  (repeat' first
  | exact calm_pure _ _
  | exact IsCalm.out
  | (refine calmT_bind ?_ (fun _ => ?_))
  | (refine calm_ite (fun _ => ?_) (fun _ => ?_))
  | split
  | exact trivial
  | dsimp only)
theorem c_followBlind : ∀ (l : List FieldStep) (t : TypeId) (p : Option Value), CalmT P (followBlind l t p)
 | [], _, _ => trivial
 | s :: rest, t, x => by
  have ih := c_followBlind rest
  haveI : ∀ t p, IsCalm P (followBlind rest t p) := fun t p => ⟨ih t p⟩
  clear ih
  unfold followBlind
  (repeat' first
  | exact calm_pure _ _
  | exact IsCalm.out
  | (refine calmT_bind ?_ (fun _ => ?_))
  | (refine calm_ite (fun _ => ?_) (fun _ => ?_))
  | split
  | exact trivial
  | dsimp only)
theorem c_nilAhead : ∀ (n : Nat) (t : TypeId) (v : Value) (s : String), CalmT P (nilAhead n t v s)
 | 0, _, _, _ => trivial
 | n + 1, t, v, s => by
  have ih := c_nilAhead n
  haveI : ∀ t v s, IsCalm P (nilAhead n t v s) := fun t v s => ⟨ih t v s⟩
  haveI : ∀ l t p, IsCalm P (followBlind l t p) := fun l t p => ⟨c_followBlind l t p⟩
  clear ih
  unfold nilAhead
  (repeat' first
  | exact calm_pure _ _
  | exact IsCalm.out
  | (refine calmT_bind ?_ (fun _ => ?_))
  | (refine calm_ite (fun _ => ?_) (fun _ => ?_))
  | split
  | exact trivial
  | dsimp only)
theorem c_runtimePanicB {α : Type} (B : α -> Prop) (e : RuntimeError) : Calm P B (runtimePanic e : Sem α) := by
 unfold runtimePanic
 (repeat' first
  | exact calm_goPanic _ _ _
  | exact IsCalm.out
  | (refine calmT_bind ?_ (fun _ => ?_))
  | split
  | dsimp only)
theorem c_callMethod (hF : FuncsCalm P) (r : Value) (s : String) (args : Array Value) : Calm P NextOk (callMethod r s args) := by
 unfold callMethod
 split
 ·refine calmT_bind (calm_program P) fun p => calmT_bind (c_method _ _ _ _) fun x => ?_
  exact hF _ _
 ·exact c_runtimePanicB _ _
 ·exact trivial
theorem c_getLoop (l : Nat) : Calm P (fun r : Loop => codeOk false r.assign = true /\ codeOk false r.body = true /\ ∀ c, r.pending = some c -> codeOk false c = true) (Instr.getLoop l) := by
 unfold Instr.getLoop
 refine calm_getBind _ (fun o ho => ?_) (.inl ⟨_, rfl⟩)
 split
 ·exact ho
 ·exact trivial
theorem c_yield (l : Nat) (args : Array Value) : Calm P NextOk (Instr.yield l args) := by
 unfold Instr.yield
 refine calm_bind (c_getLoop l) fun r hr => ?_
 dsimp only
 refine calm_ite (fun _ => ?_) (fun _ => ?_)
 ·exact trivial
 ·exact ⟨hr.1, hr.2.1⟩
def builtinOk (b : Builtin) : Bool := b == .append || b == .cap || b == .clear || b == .copy || b == .delete || b == .len || b == .max || b == .min || b == .recover
theorem c_builtin (b : Builtin) (hb : builtinOk b = true) (ts : Array TypeId) (t : TypeId) (cs : Array Bool) (args : Array Value) : Calm P NextOk (builtin b ts t cs args) := by
 cases b <;> first | (exact absurd hb (by decide)) | (unfold builtin; exact calm_value IsCalm.out) | exact trivial
theorem c_invoke (hF : FuncsCalm P) (t : Target) (ht : match t with | .builtin b .. => builtinOk b = true | .coroexit _ => False | _ => True) (args : Array Value) : Calm P NextOk (invoke t args) := by
 unfold invoke
 split
 ·exact c_runtimePanicB _ _
 ·exact c_builtin _ ht _ _ _ _
 ·exact hF _ _
 ·split
  ·exact c_callMethod hF _ _ _
  ·exact trivial
 ·split
  ·refine calmT_bind (c_underlying P _) fun d => ?_
   split <;> exact c_callMethod hF _ _ _
  ·exact trivial
 ·split
  ·exact calmT_bind (c_receiverVia _ _ _ _) fun _ => hF _ _
  ·exact trivial
 ·exact c_yield _ _
 ·exact trivial
 ·exact ht.elim
theorem c_ofValue (f : Value) (args : Array Value) : Calm P (fun d : Deferred => d.good) (Deferred.ofValue f args) := by
 unfold Deferred.ofValue
 split <;> exact trivial
theorem c_resolve (ρ : Operand -> Value) (c : Call) (t : TypeId) : Calm P (fun d : Deferred => match c.callee with | .builtin b => ∃ ts t cs, d.target = .builtin b ts t cs | _ => d.good) (resolve ρ c t) := by
 unfold resolve
 cases hc : c.callee with
 | builtin b => exact ⟨_, _, _, rfl⟩
 | invoke r n => exact trivial
 | value f => exact c_ofValue _ _
theorem opOk_makeChan {d : Bool} {o : Oper} {t : TypeId} {x : Operand} (hop : o.op = .makeChan t x) (ho : opOk d o = true) : x = .const (.int .i64 0) := by
 by_cases e : x = .const (.int .i64 0)
 ·exact e
 ·exfalso
  unfold opOk at ho
  rw [hop] at ho
  split at ho <;> simp_all
theorem c_execOp (hF : FuncsCalm P) (ρ : Operand -> Value) (hρ : ∀ v, ρ (.const v) = v) (o : Oper) {df : Bool} (ho : opOk df o = true) : Calm P NextOk (execOp ρ o) := by
 have hoo := ho
 unfold opOk at ho
 unfold execOp
 cases hop : o.op with
 | ready g => rw [hop] at ho; cases ho
 | waits g => rw [hop] at ho; cases ho
 | call c =>
  rw [hop] at ho
  refine calm_bind (c_resolve ρ c o.type) fun d hd => ?_
  refine c_invoke hF _ ?_ _
  obtain ⟨callee, as, ats⟩ := c
  cases callee with
  | builtin b =>
   obtain ⟨ts, t, cs, e⟩ := hd
   rw [e]
   exact ho
  | value f =>
   have hd' : d.good := hd
   unfold Deferred.good at hd'
   cases e : d.target <;> simp_all
  | invoke f n =>
   have hd' : d.good := hd
   unfold Deferred.good at hd'
   cases e : d.target <;> simp_all
 | go c =>
  rw [hop] at ho
  refine calm_bind (c_resolve ρ c o.type) fun d hd => ?_
  obtain ⟨callee, as, ats⟩ := c
  cases callee with
  | builtin b => cases ho
  | value f => exact hd
  | invoke f n => exact hd
 | defer c =>
  rw [hop] at ho
  refine calm_bind (c_resolve ρ c o.type) fun d hd => ?_
  obtain ⟨callee, as, ats⟩ := c
  cases callee with
  | builtin b => cases ho
  | value f => exact hd
  | invoke f n => exact hd
 | move x => exact trivial
 | assign x => exact trivial
 | pick c a b => exact calmT_bind (c_asBool P _) fun _ => by split <;> exact trivial
 | nilCheck x =>
  dsimp only
  split
  ·exact c_runtimePanicB _ _
  ·exact c_runtimePanicB _ _
  ·exact c_runtimePanicB _ _
  ·split
   ·exact c_runtimePanicB _ _
   ·refine calmT_bind (calm_program P) fun p => calmT_bind (c_nilAhead _ _ _ _) fun b => ?_
    refine calm_ite (fun _ => ?_) (fun _ => ?_) <;> exact trivial
   ·exact trivial
  ·exact trivial
 | binOp op t x y u => exact calm_value (calmT_bind (c_eqGuard P ..) fun _ => c_binOp P ..)
 | send ch x => exact (rfl : true = true)
 | recv t ch ok =>
  refine calmT_bind (c_underlying P _) fun d => ?_
  split
  ·exact calmT_bind (c_zeroValue P _) fun _ => (rfl : true = true)
  ·exact trivial
 | select cs b =>
  rw [hop] at ho
  exact calmT_bind (calm_arrayMapM _ _ fun s => calmT_bind (c_zeroValue P _) fun _ => trivial) fun _ => ho
 | store t a x => exact calm_unit IsCalm.out
 | makeChan t x =>
  obtain rfl := opOk_makeChan hop hoo
  refine calm_value ?_
  rw [hρ]
  exact IsCalm.out
 | mapUpdate t m k x => exact calm_unit IsCalm.out
 | insert t m k x => exact calm_unit IsCalm.out
 | entryStore t m k x => exact calm_unit IsCalm.out
 | _ => exact calm_value IsCalm.out
end
section
open Go.Conc (mem_seen)
def _root_.Go.GStep.tp (st : GStep) (τ : Nat -> Question -> Nat) (d : Nat) (j : Junk) : GStep := match st with
 | .go g w es => .go g (w.tp τ d j) es
 | .comm g cases blocking shape w es => .comm g cases blocking shape (w.tp τ d j) es
 | .spawn g child w es => .spawn g child (w.tp τ d j) es
 | .count g w es => .count g (w.tp τ d j) es
 | .timer g op w es => .timer g op (w.tp τ d j) es
 | .alone g on w es => .alone g on (w.tp τ d j) es
 | .newcoro g c x w es => .newcoro g c x (w.tp τ d j) es
 | .coroswitch g c exit w es => .coroswitch g c exit (w.tp τ d j) es
 | .collect g w es => .collect g (w.tp τ d j) es
 | .watch g w es => .watch g (w.tp τ d j) es
 | .ended o w es => .ended o (w.tp τ d j) es
def _root_.Go.GStep.isEnd (st : GStep) : Bool := match st with
 | .ended .. => true
 | _ => false
def _root_.Go.GStep.room (st : GStep) : Nat := match st with
 | .go _ w _ | .comm _ _ _ _ w _ | .spawn _ _ w _ | .count _ w _ | .timer _ _ w _ | .alone _ _ w _ | .newcoro _ _ _ w _ | .coroswitch _ _ _ w _ | .collect _ w _ | .watch _ w _ | .ended _ w _ => w.heap.size
def ItemOk (df : Bool) : Item -> Prop
 | .code c | .inLoop c | .inScope c => codeOk df c = true
 | .inRegion ops _ => ops.all (opOk df) = true
 | .inBlock _ | .inRangeFunc _ | .endRangeFunc _ | .beginRound => True
 | .call .. | .extern .. => False
structure FrameOk (fr : Frame) : Prop where
 items : ∀ it ∈ fr.todo, ItemOk fr.roundOf.isNone it
 defers : ∀ d ∈ fr.defers, d.good
 kind : fr.kind ≠ .early
structure GoodG (g : Goroutine) : Prop where
 frame : FrameOk g.frame
 callers : ∀ f ∈ g.callers, FrameOk f
def StOk (P : Program) : GStep -> Prop
 | .go g w _ => (GoodG g /\ g.dying = none /\ (g.status = .running \/ g.status = .finished) /\ Started w) \/ g.dyingOn P
 | .comm g _ b _ w _ => GoodG g /\ g.dying = none /\ b = true /\ Started w
 | .spawn .. => True
 | .ended .. => True
 | _ => False
def BodiesOk (P : Program) : Prop := ∀ (f : FuncId) (fn : Func) (c : Code), P.funcs[f]? = some fn -> fn.body = some c -> codeOk true c = true
structure Good (P : Program) : Prop where
 funcs : FuncsCalm P
 bodies : BodiesOk P
 ahead : P.follows .staticDataAhead = true
 noStep : ∀ g, P.stepOf g = none
 noEnter : ∀ todo, NoEnter P todo
def TL (P : Program) (F : World -> GStep) (w : World) : Prop :=
 ∃ k st, (∀ τ d j, j.ok -> Agree w k τ d -> (j = noJ \/ st.isEnd = false) -> ∃ es, (∀ e ∈ es, okE st.room e) /\ F (w.tp τ d j) = GStep.after es (GStep.tp st τ (d + k) j)) /\ (∀ e ∈ st.es, okE st.room e) /\ StOk P st /\ w.heap.size <= st.room
section
variable {P : Program} {w : World}
theorem after_nil (st : GStep) : GStep.after #[] st = st := by cases st <;> simp [GStep.after]
theorem after_after (x y : Array Event) (st : GStep) : GStep.after x (GStep.after y st) = GStep.after (x ++ y) st := by cases st <;> simp [GStep.after]
theorem isEnd_after (es : Array Event) (st : GStep) : (GStep.after es st).isEnd = st.isEnd := by cases st <;> rfl
theorem isEnd_tp (st : GStep) (τ : Nat -> Question -> Nat) (d : Nat) (j : Junk) : (st.tp τ d j).isEnd = st.isEnd := by cases st <;> rfl
theorem tp_tp (w : World) (τ τ' : Nat -> Question -> Nat) (d d' : Nat) (j : Junk) : (w.tp τ d noJ).tp τ' d' j = w.tp τ' d' j := by unfold World.tp; simp only [fill_noJ]
theorem started_tp {w : World} (h : Started w) (τ : Nat -> Question -> Nat) (d : Nat) : Started (w.tp τ d noJ) := by
 have e : (w.tp τ d noJ).heap = w.heap := fill_noJ _
 intro n o ho; rw [e] at ho; exact h n o ho
theorem TL.const {st : World -> GStep} (h : ∀ τ d j, st (w.tp τ d j) = (st w).tp τ d j) (he : ∀ e ∈ (st w).es, okE (st w).room e) (ho : StOk P (st w)) (hr : w.heap.size <= (st w).room) : TL P st w :=
 ⟨0, st w, fun τ d j _ _ _ => ⟨#[], fun e he => by simp at he, by rw [after_nil]; exact h τ d j⟩, he, ho, hr⟩
theorem TL.go {g : Goroutine} (hg : GoodG g) (hs : Started w) (hd : g.dying = none := by rfl) (hst : g.status = .running \/ g.status = .finished := by first | exact .inl rfl | exact .inr rfl) : TL P (fun w => .go g w) w := .const (fun _ _ _ => rfl) (fun e he => by simp [GStep.es] at he) (.inl ⟨hg, hd, hst, hs⟩) (nR _)
theorem TL.dy {g : Goroutine} (hg : g.dyingOn P) : TL P (fun w => .go g w) w := .const (fun _ _ _ => rfl) (fun e he => by simp [GStep.es] at he) (.inr hg) (nR _)
theorem TL.ended {o : Outcome} : TL P (fun w => .ended o w) w := .const (fun _ _ _ => rfl) (fun e he => by simp [GStep.es] at he) trivial (nR _)
theorem TL.ite {F F' : World -> GStep} {c : Prop} [Decidable c] (h : c -> TL P F w) (h' : ¬ c -> TL P F' w) : TL P (fun w => if c then F w else F' w) w := by
 by_cases hc : c
 ·simpa [hc] using h hc
 ·simpa [hc] using h' hc
theorem TL.join {α : Type} {s : Sem α} {F : World -> GStep} {Ψ : Result α -> GStep} {R : World -> Result α} {w' : World} {k : Nat}
  (hF : ∀ w, ∃ es, (∀ e ∈ es, e ∈ (s.runT P w #[]).2) /\ F w = GStep.after es (Ψ (s.runT P w #[]).1))
  (hr : ∀ τ d j es, j.ok -> Agree w k τ d -> (j = noJ \/ (R w').fails = false) -> ∃ es', s.runT P (w.tp τ d j) es = (R (w'.tp τ (d + k) j), es') /\ More (R w').room es es')
  (hR : (R w').room = w'.heap.size) (hw : w.heap.size <= (R w').room)
  (hend : (R w').fails = true -> ∀ w, (Ψ (R w)).isEnd = true)
  (h : TL P (fun w => Ψ (R w)) (w'.tp w.tape (w.drawn + k) noJ)) : TL P F w := by
 obtain ⟨k2, st, g1, g2, g3, g4⟩ := h
 have hle : (R w').room <= st.room := by rw [hR, <- tp_size w' w.tape (w.drawn + k) noJ]; exact g4
 have hst : (R w').fails = true -> st.isEnd = true := fun hf => by
  obtain ⟨es, _, e⟩ := g1 w.tape (w.drawn + k) noJ noJ_ok (fun j hj => by simp) (.inl rfl)
  have := hend hf ((w'.tp w.tape (w.drawn + k) noJ).tp w.tape (w.drawn + k) noJ)
  dsimp only at e
  rw [e, isEnd_after, isEnd_tp] at this; exact this
 refine ⟨k + k2, st, fun τ d j hj hA hx => ?_, g2, g3, Nat.le_trans hw hle⟩
 have hx' : j = noJ \/ (R w').fails = false := hx.imp id (fun h => by
  cases hf : (R w').fails with
  | false => rfl
  | true => rw [hst hf] at h; cases h)
 obtain ⟨es', r1, r2⟩ := hr τ d j #[] hj (fun i hi => hA i (by omega)) hx'
 obtain ⟨es1, f1, f2⟩ := hF (w.tp τ d j)
 obtain ⟨es2, q1, q2⟩ := g1 τ (d + k) j hj (fun i hi => by
  have := hA (k + i) (by omega)
  simp only [tp_tape, tp_drawn]
  rw [show d + k + i = d + (k + i) by omega, show w.drawn + k + i = w.drawn + (k + i) by omega]; exact this) hx
 rw [tp_tp] at q2
 rw [r1] at f1 f2
 refine ⟨es1 ++ es2, fun e he => (Array.mem_append.1 he).elim (fun h => (r2 e (f1 e h)).elim (fun h => by simp at h) (fun h => h.mono hle)) (q1 e), ?_⟩
 rw [f2, <- after_after, show d + (k + k2) = d + k + k2 by omega, <- q2]
theorem TL.by {α : Type} {A : α -> Prop} {s : Sem α} {F : World -> GStep} {Ψ : Result α -> GStep}
  (hF : ∀ w, ∃ es, (∀ e ∈ es, e ∈ (s.runT P w #[]).2) /\ F w = GStep.after es (Ψ (s.runT P w #[]).1)) (hc : Calm P A s) (hs : Started w)
  (hend : ∀ x w, (Ψ (.halt (.stuck x) w)).isEnd = true)
  (h1 : ∀ a w', A a -> Started w' -> TL P (fun w => Ψ (.ok a w)) w')
  (h2 : ∀ h w', okH h -> Started w' -> TL P (fun w => Ψ (.halt h w)) w') : TL P F w := by
 obtain ⟨k, r, hr, ho, hw⟩ := calm_run s w hc hs
 cases r with
 | ok a w' => exact TL.join (R := fun w => .ok a w) hF hr rfl hw (fun h => by cases h) (h1 a _ ho.1 (started_tp ho.2 _ _))
 | halt x w' =>
  refine TL.join (R := fun w => .halt x w) hF hr rfl hw (fun h w => ?_) (h2 x _ ho.1 (started_tp ho.2 _ _))
  cases x <;> first | exact hend _ _ | cases h
theorem enter_ok (hB : BodiesOk P) (f : FuncId) (args : Array Value) {k : CallKind} (hk : k ≠ .early) : FrameOk (Frame.enter P f args k) := by
 refine ⟨fun it hit => ?_, fun d hd => by simp [Frame.enter] at hd, hk⟩
 simp only [Frame.enter, List.mem_singleton] at hit
 subst hit
 show codeOk true _ = true
 cases hf : P.funcs[f]? with
 | none => rfl
 | some fn =>
  cases hb : fn.body with
  | none => simp [hb, codeOk]
  | some c => simpa [hb] using hB f fn c hf hb
theorem finish_ok {fr : Frame} (h : FrameOk fr) (v : Value) : FrameOk (fr.finish v) := by
 obtain ⟨h1, h2, h3⟩ := h
 unfold Frame.finish
 split
 ·rename_i ops i rest k ht
  rw [ht] at h1
  exact ⟨fun it hit => by
   rcases List.mem_cons.1 hit with rfl | hm
   ·exact h1 (.inRegion ops (i :: rest)) (List.mem_cons_self ..)
   ·exact h1 _ (List.mem_cons_of_mem _ hm), h2, h3⟩
 ·rename_i l k ht
  rw [ht] at h1
  exact ⟨fun it hit => by
   rcases List.mem_cons.1 hit with rfl | hm
   ·exact trivial
   ·exact h1 _ (List.mem_cons_of_mem _ hm), h2, h3⟩
 ·rename_i k ht
  rw [ht] at h1
  exact ⟨fun it hit => h1 _ (List.mem_cons_of_mem _ hit), h2, h3⟩
 ·rename_i ht
  rw [ht] at h1
  exact (h1 _ (List.mem_cons_self ..)).elim
 ·rename_i ht
  rw [ht] at h1
  exact (h1 _ (List.mem_cons_self ..)).elim
 ·exact ⟨h1, h2, h3⟩
theorem exitTo_ok {id : Nat} {df : Bool} : ∀ {k k' : List Item}, exitTo id k = some k' -> (∀ it ∈ k, ItemOk df it) -> ∀ it ∈ k', ItemOk df it
 | [], _, h, _ => by simp [exitTo] at h
 | x :: k, k', h, hk => by
  have rest : ∀ it ∈ k, ItemOk df it := fun it hm => hk it (List.mem_cons_of_mem _ hm)
  unfold exitTo at h
  split at h
  ·split at h
   ·rename_i heq _; cases heq; cases h; exact rest
   ·rename_i heq _; cases heq; exact exitTo_ok h rest
  ·rename_i heq; cases heq; exact exitTo_ok h rest
  ·rename_i heq; cases heq
theorem ok_todo {fr : Frame} (h : FrameOk fr) {todo : List Item} (ht : ∀ it ∈ todo, ItemOk fr.roundOf.isNone it) : FrameOk { fr with todo := todo } := ⟨ht, h.defers, h.kind⟩
theorem ok_mode {fr : Frame} (h : FrameOk fr) (m : FrameMode) : FrameOk { fr with mode := m } := ⟨h.items, h.defers, h.kind⟩
theorem raise_ok {fr : Frame} (h : FrameOk fr) (c : List PanicEntry) : FrameOk (fr.raise c) := by
 unfold Frame.raise; split <;> exact ok_mode h _
theorem tryRecover_ok : ∀ {callers : List Frame} {fr : Frame} {v : Value} {rest : List Frame}, tryRecover fr callers = some (v, rest) -> (∀ f ∈ callers, FrameOk f) -> ∀ f ∈ rest, FrameOk f := by
 intro callers
 induction callers with
 | nil => intro fr v rest h; unfold tryRecover at h; split at h <;> simp_all
 | cons c cs ih =>
  intro fr v rest h hk
  have hc := hk c (List.mem_cons_self ..)
  have hcs : ∀ f ∈ cs, FrameOk f := fun f hf => hk f (List.mem_cons_of_mem _ hf)
  unfold tryRecover at h
  split at h
  ·rename_i heq
   cases heq
   split at h
   ·cases h
    intro f hf
    rcases List.mem_cons.1 hf with rfl | hm
    ·exact ok_mode hc _
    ·exact hcs _ hm
   ·cases h
  ·rename_i heq
   cases heq
   obtain ⟨⟨v', r'⟩, hr, he⟩ := Option.map_eq_some_iff.1 h
   cases he
   intro f hf
   rcases List.mem_cons.1 hf with rfl | hm
   ·exact hc
   ·exact ih hr hcs _ hm
  ·cases h
theorem tryRecoverLoop_ok : ∀ {callers : List Frame} {l : Nat} {v : Value} {rest : List Frame}, tryRecoverLoop l callers = some (v, rest) -> (∀ f ∈ callers, FrameOk f) -> ∀ f ∈ rest, FrameOk f := by
 intro callers
 induction callers with
 | nil => intro l v rest h; unfold tryRecoverLoop at h; cases h
 | cons c cs ih =>
  intro l v rest h hk
  have hc := hk c (List.mem_cons_self ..)
  have hcs : ∀ f ∈ cs, FrameOk f := fun f hf => hk f (List.mem_cons_of_mem _ hf)
  unfold tryRecoverLoop at h
  obtain ⟨⟨v', r'⟩, hr, he⟩ := Option.map_eq_some_iff.1 h
  cases he
  have : ∀ f ∈ r', FrameOk f := by
   split at hr
   ·exact ih hr hcs
   ·split at hr
    ·exact tryRecover_ok hr hcs
    ·exact ih hr hcs
   ·exact ih hr hcs
  intro f hf
  rcases List.mem_cons.1 hf with rfl | hm
  ·exact hc
  ·exact this _ hm
theorem tl_doReturn (hB : BodiesOk P) {main : Bool} {fr : Frame} {callers : List Frame} {v : Value} (hf : FrameOk fr) (hc : ∀ f ∈ callers, FrameOk f) (hs : Started w) : TL P (fun w => doReturn P main fr callers none v w) w := by
 unfold doReturn
 cases callers with
 | nil =>
  dsimp only
  split
  ·rename_i heq; cases heq
  ·exact .ended
  ·split
   ·exact .go ⟨hf, hc⟩ hs
   ·split
    ·exact .go ⟨enter_ok hB _ _ (by decide), fun f h => by simp at h⟩ hs
    ·exact .ended
 | cons c cs =>
  have h1 := hc c (List.mem_cons_self ..)
  have h2 : ∀ f ∈ cs, FrameOk f := fun f hf => hc f (List.mem_cons_of_mem _ hf)
  dsimp only
  split
  ·exact .go ⟨finish_ok h1 _, h2⟩ hs
  ·exact .go ⟨finish_ok h1 _, h2⟩ hs
  ·rename_i hk; exact absurd hk hf.kind
  ·refine .go ⟨?_, h2⟩ hs
   dsimp only
   split
   ·split <;> exact ok_mode h1 _
   ·exact h1
theorem tl_apply (G : Good P) {fr : Frame} {callers : List Frame} {s : Sem Next} (hf : FrameOk fr) (hc : ∀ f ∈ callers, FrameOk f) (hs : Started w) (hcalm : Calm P NextOk s) :
    TL P (fun w => stepG.apply P true fr callers none s w) w := by
  have hke : (fr.kind == CallKind.early) = false := by simpa using hf.kind
  refine TL.by (s := s) (Ψ := ?_) (fun w => ?_) hcalm hs ?_ ?_ ?_
  rotate_left
  · unfold stepG.apply
    simp only [if_true, hke, Bool.false_eq_true, if_false]
    generalize s.runT P w #[] = x
    obtain ⟨r, es⟩ := x
    dsimp only
    refine ⟨seen P fr.fn (match r with | .halt .blocked _ | .halt .waiting _ | .halt (.unsupported (.initOrder _)) _ => #[] | _ => es), fun e he => ?_, ?_⟩
    rotate_left
    · exact rfl
    have := mem_seen he
    split at this <;> simp_all
  · exact fun _ _ => rfl
  · intro a w' ha hs'
    have nx : ∀ (fr' : Frame) (w' : World), FrameOk fr' -> Started w' -> TL P (fun w => GStep.go { frame := fr', callers, status := .running, dying := none } w) w' := fun fr' w' h1 h2 => .go ⟨h1, hc⟩ h2
    cases a with
    | value v => exact nx _ _ (finish_ok hf _) hs'
    | skip => exact nx _ _ (finish_ok hf _) hs'
    | enter f args =>
      refine .go ⟨enter_ok G.bodies _ _ ?_, fun x hx => ?_⟩ hs'
      · split <;> decide
      · rcases List.mem_cons.1 hx with rfl | hm
        · exact hf
        · exact hc _ hm
    | round l f tmps a b =>
      refine .go ⟨⟨fun it hit => ?_, fun d hd => by simp [Frame.round] at hd, by simp [Frame.round]⟩, fun x hx => ?_⟩ hs'
      · simp only [Frame.round, List.mem_cons, List.not_mem_nil, or_false] at hit
        rcases hit with rfl | rfl | rfl
        · exact ha.1
        · exact trivial
        · exact ha.2
      · rcases List.mem_cons.1 hx with rfl | hm
        · exact hf
        · exact hc _ hm
    | defer d =>
      have h0 : FrameOk { fr with defers := d :: fr.defers } := ⟨hf.items, fun x hx => (List.mem_cons.1 hx).elim (fun e => e ▸ ha) (hf.defers x), hf.kind⟩
      exact nx _ _ (finish_ok h0 _) hs'
    | recover =>
      dsimp only
      split
      · rename_i v cs hr
        have : ∀ f ∈ cs, FrameOk f := by
          split at hr
          · split at hr
            · exact tryRecover_ok hr hc
            · exact tryRecoverLoop_ok hr hc
          · exact tryRecover_ok hr hc
        exact .go ⟨finish_ok hf _, this⟩ hs'
      · exact nx _ _ (finish_ok hf _) hs'
    | comm cases blocking shape => exact .const (fun _ _ _ => rfl) (fun e he => by simp [GStep.es] at he) ⟨⟨hf, hc⟩, rfl, ha, hs'⟩ (nR _)
    | spawn d =>
      refine TL.ite (fun _ => ?_) (fun _ => ?_)
      · exact .dy (dieOf_okD (P := P) fr [] "go of nil func value" false w')
      · exact .const (fun _ _ _ => rfl) (fun e he => by simp [GStep.es] at he) trivial (nR _)
    | _ => exact ha.elim
  · intro h w' hh hs'
    cases h with
    | panic v =>
        exact .go ⟨raise_ok hf _, hc⟩ hs'
    | unsupported u =>
      cases u with
      | initOrder g =>
        unfold early
        simp only [G.ahead, Bool.not_true, Bool.false_eq_true, if_false, G.noStep]
        exact .ended
      | _ => exact .ended
    | stuck x => exact .ended
    | _ => exact hh.elim
theorem ok_tail {it : Item} {k : List Item} {fr : Frame} (h : FrameOk fr) (ht : fr.todo = it :: k) : ∀ x ∈ k, ItemOk fr.roundOf.isNone x := fun x hx => h.items x (by rw [ht]; exact List.mem_cons_of_mem _ hx)
theorem ok_head {it : Item} {k : List Item} {fr : Frame} (h : FrameOk fr) (ht : fr.todo = it :: k) : ItemOk fr.roundOf.isNone it := h.items it (by rw [ht]; exact List.mem_cons_self ..)
theorem ok_cons {df : Bool} {it : Item} {k : List Item} (h : ItemOk df it) (hk : ∀ x ∈ k, ItemOk df x) : ∀ x ∈ it :: k, ItemOk df x := fun x hx => (List.mem_cons.1 hx).elim (fun e => e ▸ h) (hk x)
theorem c_endRound (l : Nat) (j : Option Code) (hj : ∀ c, j = some c -> codeOk false c = true) : CalmT P (Instr.endRound l j) := by
 unfold Instr.endRound
 refine calm_bind (c_getLoop l) fun r hr => ?_
 exact calmT_bind (calm_setObj P _ ⟨⟨hr.1, hr.2.1, hj⟩, rfl⟩) fun _ => trivial
theorem c_endLoop (l : Nat) : Calm P (fun j : Option Code => ∀ c, j = some c -> codeOk false c = true) (Instr.endLoop l) := by
 unfold Instr.endLoop
 refine calm_bind (c_getLoop l) fun r hr => ?_
 have k : Calm P (fun j : Option Code => ∀ c, j = some c -> codeOk false c = true) (setObj l (.loop { r with state := .exhausted }) >>= fun _ => (pure r.pending : Sem (Option Code))) :=
  calmT_bind (calm_setObj P _ ⟨⟨hr.1, hr.2.1, hr.2.2⟩, rfl⟩) fun _ => hr.2.2
 dsimp only
 split
 ·exact calm_bind (A := fun _ => False) (c_runtimePanicB _ _) fun _ x => x.elim
 ·exact k
theorem c_beginRound (l : Nat) : CalmT P (Instr.beginRound l) := by
 unfold Instr.beginRound
 refine calm_bind (c_getLoop l) fun r hr => ?_
 refine calmT_bind (calm_setObj P _ ⟨⟨hr.1, hr.2.1, hr.2.2⟩, rfl⟩) fun _ => ?_
 split <;> first | exact trivial | exact c_runtimePanicB _ _
theorem c_enterLoop (f : FuncId) (tmps : Array Value) (ps : Array Tmp) (a b : Code) (o : Option Nat) (ha : codeOk false a = true) (hb : codeOk false b = true) :
    Calm P (fun r : Nat × List Deferred => ∀ d ∈ r.2, d.good) (Instr.enterLoop f tmps ps a b o) := by
  unfold Instr.enterLoop
  have k : ∀ s : Sem (Nat × List Deferred), Calm P (fun r : Nat × List Deferred => ∀ d ∈ r.2, d.good) s ->
      Calm P (fun r : Nat × List Deferred => ∀ d ∈ r.2, d.good) (s >>= fun x => newObj (.loop { state := .ready, pending := none, fn := f, tmps := tmps, params := ps, assign := a, body := b, defers := x.1 }) >>= fun l => (pure (l, x.2) : Sem (Nat × List Deferred))) :=
    fun s hs => calm_bind hs fun r hr => calmT_bind (calm_newObj P ⟨⟨ha, hb, fun c h => by cases h⟩, rfl⟩) fun _ => hr
  dsimp only
  split
  · exact calm_bind (c_getLoop _) fun _ _ => k _ (fun d hd => by cases hd)
  · refine calmT_bind (calm_newObj P ⟨(fun d hd => by cases hd), rfl⟩) fun r => k _ ?_
    intro d hd
    simp only [List.mem_singleton] at hd
    subst hd; exact trivial
theorem opOk_mono {d : Bool} {o : Oper} (h : opOk false o = true) : opOk d o = true := by
 cases d
 ·exact h
 ·unfold opOk at *
  split at h <;> simp_all
theorem codeOk_mono {d : Bool} : ∀ {c : Code}, codeOk false c = true -> codeOk d c = true
 | .region _ ops _, h => by
  simp only [codeOk, Array.all_eq_true_iff_forall_mem] at *
  exact fun o ho => opOk_mono (h o ho)
 | .seq a b, h | .cond _ a b, h => by
  simp only [codeOk, Bool.and_eq_true] at *
  exact ⟨codeOk_mono h.1, codeOk_mono h.2⟩
 | .rangeFunc _ _ a b, h => by simpa only [codeOk] using h
 | .block _ c, h | .loop c, h | .scope c, h => by
  simp only [codeOk] at *
  exact codeOk_mono h
 | .goto _, h => by simp [codeOk] at h
 | .skip, _ | .exit _, _ | .label _, _ | .ret, _ | .refuse _, _ => by simp [codeOk]
theorem tl_exec (G : Good P) {main : Bool} {fr : Frame} {callers : List Frame} (hf : FrameOk fr) (hc : ∀ f ∈ callers, FrameOk f) (hs : Started w) :
    TL P (fun w => stepG.exec P main true fr callers none w) w := by
  have go : ∀ {fr' : Frame} {w' : World}, FrameOk fr' -> Started w' -> TL P (fun w => GStep.go { frame := fr', callers, status := .running, dying := none } w) w' := fun h1 h2 => .go ⟨h1, hc⟩ h2
  have leave : ∀ jump : Option Code, (∀ c, jump = some c -> codeOk false c = true) -> TL P (fun w => match fr.roundOf with
      | none => if jump matches none | some .ret then GStep.go { frame := { fr with mode := .returning }, callers, status := .running, dying := none } w else .ended (.stuck "exit, goto: no such block or label" (fr.pos P)) w
      | some l => GStep.after (seen P fr.fn ((Instr.endRound l jump).runT P w #[]).2) <| match ((Instr.endRound l jump).runT P w #[]).1 with
        | .ok v w => doReturn P main fr callers none v w
        | .halt _ w => .ended (.stuck "range over a function: no such loop" (fr.pos P)) w) w := by
    intro jump hj
    split
    · exact TL.ite (fun _ => go (ok_mode hf _) hs) (fun _ => .ended)
    · rename_i l _
      refine TL.by (P := P) (s := Instr.endRound l jump) (Ψ := ?_) (fun w => ⟨seen P fr.fn ((Instr.endRound l jump).runT P w #[]).2, fun e he => mem_seen he, ?_⟩) (c_endRound l jump hj) hs ?_ ?_ ?_
      rotate_left
      · generalize (Instr.endRound l jump).runT P w #[] = x
        obtain ⟨r, es⟩ := x
        dsimp only
        exact rfl
      · exact fun _ _ => rfl
      · intro a w' ha hs'
        exact tl_doReturn G.bodies hf hc hs'
      · intro h w' hh hs'
        exact .ended
  unfold stepG.exec
  dsimp only
  split
  · exact leave none (fun c h => by cases h)
  · exact leave (some .ret) (fun c h => by cases h; rfl)
  · rename_i k ht; exact go (ok_todo hf (ok_tail hf ht)) hs
  · rename_i l k ht; exact go (ok_todo hf (ok_tail hf ht)) hs
  · rename_i l k ht; exact go (ok_todo hf (ok_tail hf ht)) hs
  · rename_i l k ht; exact go (ok_todo hf (ok_tail hf ht)) hs
  · rename_i a b k ht
    have h : codeOk fr.roundOf.isNone a && codeOk fr.roundOf.isNone b := ok_head hf ht
    rw [Bool.and_eq_true] at h
    exact go (ok_todo hf (ok_cons h.1 (ok_cons h.2 (ok_tail hf ht)))) hs
  · rename_i c a b k ht
    have h : codeOk fr.roundOf.isNone a && codeOk fr.roundOf.isNone b := ok_head hf ht
    rw [Bool.and_eq_true] at h
    split
    · rename_i t _
      refine go (ok_todo hf (ok_cons ?_ (ok_tail hf ht))) hs
      cases t
      · exact h.2
      · exact h.1
    · exact .ended
  · rename_i id c k ht
    exact go (ok_todo hf (ok_cons (show codeOk fr.roundOf.isNone c = true from ok_head hf ht) (ok_cons trivial (ok_tail hf ht)))) hs
  · rename_i c k ht
    have h : codeOk fr.roundOf.isNone c = true := ok_head hf ht
    exact go (ok_todo hf (ok_cons h (ok_cons h (ok_tail hf ht)))) hs
  · rename_i c k ht
    have h : codeOk fr.roundOf.isNone c = true := ok_head hf ht
    exact go (ok_todo hf (ok_cons h (ok_cons h (ok_tail hf ht)))) hs
  · rename_i c k ht
    have h : codeOk fr.roundOf.isNone c = true := ok_head hf ht
    exact go (ok_todo hf (ok_cons h (ok_cons h (ok_tail hf ht)))) hs
  · rename_i id k ht
    cases hx : exitTo id k with
    | none => exact leave (some (.exit id)) (fun c h => by cases h; rfl)
    | some k' => exact go (ok_todo hf (exitTo_ok hx (ok_tail hf ht))) hs
  · rename_i l k ht
    have h : codeOk fr.roundOf.isNone (.goto l) = true := ok_head hf ht
    simp [codeOk] at h
  · rename_i f ps a b k ht
    have h : codeOk false a && codeOk false b := ok_head hf ht
    rw [Bool.and_eq_true] at h
    refine TL.by (P := P) (s := Instr.enterLoop fr.fn fr.tmps ps a b fr.roundOf) (Ψ := ?_) (fun w => ⟨seen P fr.fn ((Instr.enterLoop fr.fn fr.tmps ps a b fr.roundOf).runT P w #[]).2, fun e he => mem_seen he, ?_⟩) (c_enterLoop _ _ _ _ _ _ h.1 h.2) hs ?_ ?_ ?_
    rotate_left
    · generalize (Instr.enterLoop fr.fn fr.tmps ps a b fr.roundOf).runT P w #[] = x
      obtain ⟨r, es⟩ := x
      dsimp only
      exact rfl
    · exact fun _ _ => rfl
    · intro r w' ha hs'
      refine tl_apply G ⟨ok_cons (df := fr.roundOf.isNone) trivial (ok_tail hf ht), fun d hd => ?_, hf.kind⟩ hc hs' ?_
      · exact (List.mem_append.1 hd).elim (ha d) (hf.defers d)
      · refine calm_bind (c_resolve _ _ _) fun d hd => c_invoke G.funcs _ ?_ _
        have hd' : d.good := hd
        unfold Deferred.good at hd'
        cases e : d.target <;> simp_all
    · intro x w' hh hs'
      exact .ended
  · exact .ended
  · rename_i k ht
    refine tl_apply G hf hc hs ?_
    cases hr : fr.roundOf with
    | none => exact trivial
    | some l => exact calmT_bind (c_beginRound l) fun _ => trivial
  · rename_i l k ht
    refine TL.by (P := P) (s := Instr.endLoop l) (Ψ := ?_) (fun w => ⟨seen P fr.fn ((Instr.endLoop l).runT P w #[]).2, fun e he => mem_seen he, ?_⟩) (c_endLoop l) hs ?_ ?_ ?_
    rotate_left
    · generalize (Instr.endLoop l).runT P w #[] = x
      obtain ⟨r, es⟩ := x
      dsimp only
      exact rfl
    · exact fun _ _ => rfl
    · intro r w' ha hs'
      refine go (ok_todo hf fun it hit => ?_) hs'
      rcases List.mem_append.1 hit with h1 | h1
      · cases r with
        | none => cases h1
        | some c =>
          simp only [Option.map_some, Option.toList_some, List.mem_singleton] at h1
          subst h1
          exact codeOk_mono (ha c rfl)
      · exact ok_tail hf ht _ h1
    · intro x w' hh hs'
      cases x with
      | panic v => exact go (raise_ok hf _) hs'
      | _ => exact .ended
  · exact .ended
  · rename_i ht; exact (ok_head hf ht).elim
  · rename_i ht; exact (ok_head hf ht).elim
  · rename_i id ops draw k ht
    have h : ops.all (opOk fr.roundOf.isNone) = true := ok_head hf ht
    refine TL.ite (fun _ => go (ok_todo hf (ok_cons h (ok_tail hf ht))) hs) (fun _ => ?_)
    refine TL.by (P := P) (s := choose (.order fr.fn id)) (Ψ := ?_) (fun w => ⟨#[], fun e he => by simp at he, ?_⟩) (calm_choose P _) hs ?_ ?_ ?_
    rotate_left
    · rw [after_nil, <- Sem.runT_fst P _ w #[]]
      generalize (choose (.order fr.fn id)).runT P w #[] = x
      obtain ⟨r, es⟩ := x
      dsimp only
      exact rfl
    · exact fun _ _ => rfl
    · intro t w' ha hs'
      exact go (ok_todo hf (ok_cons h (ok_tail hf ht))) hs'
    · intro x w' hh hs'
      exact .ended
  · rename_i ops k ht
    exact go (ok_todo hf (ok_tail hf ht)) hs
  · rename_i ops i rest k ht
    have h : ops.all (opOk fr.roundOf.isNone) = true := ok_head hf ht
    refine TL.ite (fun _ => ?_) (fun _ => go (finish_ok hf _) hs)
    unfold stepG.oper
    cases ho : fr.oper? with
    | none => exact .ended
    | some o =>
      have hop : opOk fr.roundOf.isNone o = true := by
        unfold Frame.oper? at ho
        rw [ht] at ho
        have := Array.mem_of_getElem? ho
        exact (Array.all_eq_true_iff_forall_mem.1 h) o this
      have fin : TL P (fun w => stepG.apply P true fr callers none (execOp fr.eval o) w) w := tl_apply G hf hc hs (c_execOp G.funcs _ (fun _ => rfl) _ hop)
      dsimp only
      split
      · rename_i l c hr hd
        rw [hr] at hop
        simp only [Option.isNone_some] at hop
        unfold opOk at hop
        rw [hd] at hop
        split at hop <;> simp_all
      · exact fin
theorem c_results (fn : Func) (tmps : Array Value) : CalmT P (results fn tmps) := by
 unfold results
 refine calmT_bind (calm_arrayMapM _ _ fun r => ?_) fun _ => trivial
 split
 ·exact trivial
 ·exact calmT_bind (c_asAddr P _) fun _ => c_loadVar P _ _
theorem c_takeDeferred (b : Nat) : Calm P (fun ds : List Deferred => ∀ d ∈ ds, d.good) (Instr.takeDeferred b) := by
 unfold Instr.takeDeferred
 refine calm_getBind _ (fun o ho => ?_) (.inl ⟨_, rfl⟩)
 split
 ·exact calmT_bind (calm_setObj P _ ⟨trivial, rfl⟩) fun _ => ho
 ·exact trivial
theorem c_reportChain : ∀ (l : List PanicEntry) (b : Bool), CalmT P (reportChain l b)
 | [], _ => trivial
 | e :: older, b => by
  have ih := c_reportChain older
  haveI : ∀ b, IsCalm P (reportChain older b) := fun b => ⟨ih b⟩
  clear ih
  unfold reportChain
  (repeat' first
  | exact calm_pure _ _
  | exact IsCalm.out
  | (refine calmT_bind ?_ (fun _ => ?_))
  | (refine calmT_map ?_)
  | (refine calm_ite (fun _ => ?_) (fun _ => ?_))
  | split
  | exact trivial
  | dsimp only)
theorem tl_callDeferred (G : Good P) {fr : Frame} {callers : List Frame} {d : Deferred} (hf : FrameOk fr) (hc : ∀ f ∈ callers, FrameOk f) (hd : d.good) (hs : Started w) : TL P (fun w => callDeferred P fr callers none d w) w := by
 have go : ∀ {fr' : Frame} {w' : World}, FrameOk fr' -> Started w' -> TL P (fun w => GStep.go { frame := fr', callers, status := .running, dying := none } w) w' := fun h1 h2 => .go ⟨h1, hc⟩ h2
 have ht : match d.target with | .builtin b .. => builtinOk b = true | .coroexit _ => False | _ => True := by
  unfold Deferred.good at hd
  cases e : d.target <;> simp_all
 unfold callDeferred
 refine TL.ite (fun _ => .ended) (fun _ => ?_)
 refine TL.by (P := P) (s := invoke d.target d.args) (Ψ := ?_) (fun w => ?_) (c_invoke G.funcs _ ht _) hs ?_ ?_ ?_
 rotate_left
 ·generalize (invoke d.target d.args).runT P w #[] = x
  obtain ⟨r, es⟩ := x
  dsimp only
  refine ⟨seen P fr.fn (match r with | .halt .blocked _ | .halt .waiting _ => #[] | _ => es), fun e he => ?_, ?_⟩
  rotate_left
  ·exact rfl
  have := mem_seen he
  split at this <;> simp_all
 ·exact fun _ _ => rfl
 ·intro a w' ha hs'
  cases a with
  | enter f args =>
   refine .go ⟨enter_ok G.bodies _ _ (by decide), fun x hx => ?_⟩ hs'
   rcases List.mem_cons.1 hx with rfl | hm
   ·exact hf
   ·exact hc _ hm
  | round l f tmps a b =>
   refine .go ⟨⟨fun it hit => ?_, fun d hd => by simp [Frame.round] at hd, by simp [Frame.round]⟩, fun x hx => ?_⟩ hs'
   ·simp only [Frame.round, List.mem_cons, List.not_mem_nil, or_false] at hit
    rcases hit with rfl | rfl | rfl
    ·exact ha.1
    ·exact trivial
    ·exact ha.2
   ·rcases List.mem_cons.1 hx with rfl | hm
    ·exact hf
    ·exact hc _ hm
  | recover =>
   dsimp only
   split
   ·rename_i v cs _ hr
    exact .go ⟨hf, tryRecover_ok hr hc⟩ hs'
   ·exact go hf hs'
  | value v => exact go hf hs'
  | skip => exact go hf hs'
  | defer d => exact go hf hs'
  | spawn d => exact go hf hs'
  | comm a b c => exact go hf hs'
  | _ => exact ha.elim
 ·intro h w' hh hs'
  cases h with
  | panic v => exact go (raise_ok hf _) hs'
  | unsupported u => exact .ended
  | stuck x => exact .ended
  | _ => exact hh.elim
theorem tl_unwind (G : Good P) {main : Bool} {fr : Frame} {callers : List Frame} (hf : FrameOk fr) (hc : ∀ f ∈ callers, FrameOk f) (hs : Started w) : TL P (fun w => unwind P main fr callers none w) w := by
 have go : ∀ {fr' : Frame} {w' : World}, FrameOk fr' -> Started w' -> TL P (fun w => GStep.go { frame := fr', callers, status := .running, dying := none } w) w' := fun h1 h2 => .go ⟨h1, hc⟩ h2
 have hdt : ∀ {d : Deferred} {ds : List Deferred}, fr.defers = d :: ds -> d.good /\ ∀ x ∈ ds, x.good := fun h => ⟨hf.defers _ (by rw [h]; exact List.mem_cons_self ..), fun x hx => hf.defers _ (by rw [h]; exact List.mem_cons_of_mem _ hx)⟩
 unfold unwind
 split
 ·rename_i block args ds hdef
  refine TL.by (P := P) (s := Instr.takeDeferred block) (Ψ := ?_) (fun w => ⟨seen P fr.fn ((Instr.takeDeferred block).runT P w #[]).2, fun e he => mem_seen he, ?_⟩) (c_takeDeferred _) hs ?_ ?_ ?_
  rotate_left
  ·generalize (Instr.takeDeferred block).runT P w #[] = x
   obtain ⟨r, es⟩ := x
   dsimp only
   exact rfl
  ·exact fun _ _ => rfl
  ·intro calls w' ha hs'
   refine go ⟨hf.items, fun x hx => ?_, hf.kind⟩ hs'
   exact (List.mem_append.1 hx).elim (ha x) ((hdt hdef).2 x)
  ·intro x w' hh hs'
   exact .ended
 ·rename_i d ds _ hdef
  exact tl_callDeferred G ⟨hf.items, (hdt hdef).2, hf.kind⟩ hc (hdt hdef).1 hs
 ·split
  ·exact .ended
  ·rename_i chain _
   refine TL.ite (fun _ => .ended) (fun _ => ?_)
   cases callers with
   | cons c cs =>
    exact .go ⟨raise_ok (hc c (List.mem_cons_self ..)) _, fun f h => hc f (List.mem_cons_of_mem _ h)⟩ hs
   | nil =>
    dsimp only
    refine TL.ite (fun _ => .go ⟨hf, hc⟩ hs) (fun _ => ?_)
    refine TL.by (P := P) (s := reportChain chain false) (Ψ := ?_) (fun w => ⟨#[], fun e he => by simp at he, ?_⟩) (c_reportChain _ _) hs ?_ ?_ ?_
    rotate_left
    ·rw [after_nil, <- Sem.runT_fst P _ w #[]]
     generalize (reportChain chain false).runT P w #[] = x
     obtain ⟨r, es⟩ := x
     dsimp only
     exact rfl
    ·exact fun _ _ => rfl
    ·intro todo w' ha hs'
     exact .dy ⟨.inl rfl, _, rfl, rfl, G.noEnter _⟩
    ·intro x w' hh hs'
     cases x with
     | unsupported u => exact .ended
     | _ => exact .ended
  ·split
   ·exact tl_doReturn G.bodies hf hc hs
   ·rename_i fn _
    refine TL.by (P := P) (s := results fn fr.tmps) (Ψ := ?_) (fun w => ⟨seen P fr.fn ((results fn fr.tmps).runT P w #[]).2, fun e he => mem_seen he, ?_⟩) (c_results _ _) hs ?_ ?_ ?_
    rotate_left
    ·generalize (results fn fr.tmps).runT P w #[] = x
     obtain ⟨r, es⟩ := x
     dsimp only
     exact rfl
    ·exact fun _ _ => rfl
    ·intro v w' ha hs'
     exact tl_doReturn G.bodies hf hc hs'
    ·intro x w' hh hs'
     cases x with
     | stuck s => exact .ended
     | _ => exact .ended
theorem tl_stepG (G : Good P) {main : Bool} {g : Goroutine} (hg : GoodG g) (hd : g.dying = none) (hs : Started w) : TL P (fun w => stepG P main g w) w := by
 obtain ⟨fr, callers, status, dying, offers⟩ := g
 cases hd
 unfold stepG
 dsimp only
 split
 ·rename_i heq; cases heq
 ·exact tl_exec G hg.frame hg.callers hs
 ·exact tl_unwind G hg.frame hg.callers hs
end
end
end Go.Tp
