/- A part of the proof of a law; no conditions of its own. -/
import Derived.Test.YtfiiffnbggnkfaaDoorAv03
open Go renaming Addr→aD, Program→pQ, TypeId→tI, Value→vL
open Go.IntKind renaming i64→qi
open Go.Value renaming int→iN
set_option maxRecDepth 100000
set_option maxHeartbeats 4000000
namespace Go.Tp
class IsCalm (P:pQ) {α:Type} (s:Sem α):Prop where
 out:Calm P (fun _=>True) s
abbrev ah (P:pQ) {α:Type} (s:Sem α):Prop:=Calm P (fun _=>True) s
section
variable {P:pQ} {α β:Type}
theorem jF {A:α->Prop} {B:β->Prop} {s:Sem α} {f:α->Sem β} (h:Calm P A s) (hf: ∀a,A a->Calm P B (f a)):Calm P B (s >>= f):=Calm.bind' h hf
theorem aF {B:β->Prop} {s:Sem α} {f:α->Sem β} (h:ah P s) (hf: ∀a,Calm P B (f a)):Calm P B (s >>= f):=Calm.bind' h fun a _=>hf a
theorem dI (P:pQ) (a:α):ah P (pure a:Sem α):=trivial
theorem CS {s:Sem α} {f:α->β} (h:ah P s):ah P (Functor.map f s):=Calm.bind' h fun _ _=>trivial
theorem vS (P:pQ):ah P program:=trivial
theorem Ip (P:pQ) (a:aD) (m:Mode):ah P (load a m):=fun _=>trivial
theorem Iq (P:pQ) (a:aD) (v:vL) (m:Mode):ah P (store a v m):=trivial
theorem pV (P:pQ) {o:Obj} (h:o.started/\isFin o=false):ah P (newObj o):=⟨h,fun _=>trivial⟩
theorem PV (P:pQ) (r:Nat):ah P (shape r):=fun _=>trivial
theorem PW (P:pQ) (a:aD) (n:Nat):ah P (freeze a n):=trivial
theorem PX (P:pQ) (a:aD):ah P (frozen a):=fun _=>trivial
theorem vT {B:β->Prop} (r:Nat) {f:Obj->Sem β} (h1: ∀o,o.started->Calm P B (f o)) (h2:(∃s,f fin= .halt (.stuck s))\/ ∀o:Obj,o.junk->f o=f fin):Calm P B (getObj r >>= f):=⟨h1,h2⟩
theorem rQ (P:pQ) (r:Nat) {o:Obj} (h:o.started/\isFin o=false):ah P (setObj r o):=⟨h,trivial⟩
theorem PY (P:pQ):ah P (sys .env):=⟨rfl,fun _=>trivial⟩
theorem CU (P:pQ) (q:Question):ah P (choose q):=fun _=>trivial
theorem PZ (P:pQ):ah P (mark .noRoom):=⟨trivial,trivial⟩
theorem Qa (P:pQ) (f:Nat):ah P (mark (.extern f)):=⟨trivial,trivial⟩
theorem gZ (P:pQ) (B:α->Prop) (s:String):Calm P B (stuck s:Sem α):=trivial
theorem Qb (P:pQ) (B:α->Prop) (s:String):Calm P B (unsupported (.noEntry s):Sem α):=trivial
theorem Qc (P:pQ) (B:α->Prop) (s:String):Calm P B (unsupported (.unsafePointer s):Sem α):=trivial
theorem Qd (P:pQ) (B:α->Prop) (s:String):Calm P B (unsupported (.resourceLimit s):Sem α):=trivial
theorem Qe (P:pQ) (B:α->Prop):Calm P B (unsupported .addressObserved:Sem α):=trivial
theorem Qg (P:pQ) (B:α->Prop) (s:String):Calm P B (unsupported (.extern s):Sem α):=trivial
theorem Ir (P:pQ) (B:α->Prop) (v:vL):Calm P B (goPanic v:Sem α):=trivial
theorem jG {A:α->Prop} {c:Prop} [Decidable c] {x y:Sem α} (h:c->Calm P A x) (h': ¬c->Calm P A y):Calm P A (if c then x else y):=by split<;>simp_all
theorem CV {γ:Type} (l:List γ) (f:γ->β->Sem (ForInStep β)) (h: ∀x b,ah P (f x b)): ∀init,ah P (forIn l init f):=by
 induction l with
 |nil=>intro b;exact trivial
 |cons x l ih=>
  intro b;rw[List.forIn_cons];refine aF (h _ _) fun s=> ?_
  cases s with
  |done c=>exact trivial
  |yield c=>exact ih c
theorem Qh {γ:Type} (l:Array γ) (f:γ->β->Sem (ForInStep β)) (h: ∀x b,ah P (f x b)) (init:β):ah P (forIn l init f):=by
 rw[<-Array.forIn_toList];exact CV _ _ h _
theorem Qi (a b c:Nat) (hc:0<c) (f:Nat->β->Sem (ForInStep β)) (h: ∀x b,ah P (f x b)) (init:β):ah P (forIn (⟨a,b,c,hc⟩:Std.Legacy.Range) init f):=by
 rw[Std.Legacy.Range.forIn_eq_forIn_range'];exact CV _ _ h _
theorem Qj {γ:Type} (l:List γ) (f:γ->Sem β) (h: ∀x,ah P (f x)):ah P (l.mapM f):=by
 induction l with
 |nil=>exact trivial
 |cons x l ih=>
  rw[List.mapM_cons];exact aF (h _) fun _=>aF ih fun _=>trivial
theorem CW {γ:Type} (l:Array γ) (f:γ->Sem β) (h: ∀x,ah P (f x)):ah P (l.mapM f):=by
 rw[Array.mapM_eq_mapM_toList];exact CS (Qj _ _ h)
theorem Qk {γ:Type} (l:List γ) (f:β->γ->Sem β) (h: ∀x b,ah P (f b x)): ∀init,ah P (l.foldlM f init):=by
 induction l with
 |nil=>intro b;exact trivial
 |cons x l ih=>intro b;rw[List.foldlM_cons];exact aF (h _ _) fun _=>ih _
end
theorem ac (P:pQ) {α:Type} {s:Sem α} (h:ah P s:=by
 (repeat' first
  |exact dI _ _
  |exact IsCalm.out
  | (refine vT _ ?_ ?_;rotate_left;(first |exact .inl ⟨_,rfl⟩ | (refine .inr (fun o h=> ?_);cases o<;>(first |rfl |exact False.elim h)));intro _ _)
  | (refine pV _ ?_)
  | (refine rQ _ _ ?_)
  | (refine Qh _ _ (fun _ _=> ?_) _)
  | (refine CV _ _ (fun _ _=> ?_) _)
  | (refine Qi _ _ _ _ _ (fun _ _=> ?_) _)
  | (refine CW _ _ (fun _=> ?_))
  | (refine Qk _ _ (fun _ _=> ?_) _)
  | (refine aF ?_ (fun _=> ?_))
  | (refine CS ?_)
  | (refine jG (fun _=> ?_) (fun _=> ?_))
  |split
  |assumption
  |exact trivial
  |exact⟨trivial,rfl⟩
  |dsimp only)):ah P s:=h
section
variable (P:pQ)
instance i_calm_load (a:aD) (m:Mode):IsCalm P (load a m):=⟨Ip P a m⟩
instance i_calm_store (a:aD) (v:vL) (m:Mode):IsCalm P (store a v m):=⟨Iq P a v m⟩
instance i_calm_shape (a:Nat):IsCalm P (shape a):=⟨PV P a⟩
instance i_calm_freeze (a:aD) (n:Nat):IsCalm P (freeze a n):=⟨PW P a n⟩
instance i_calm_frozen (a:aD):IsCalm P (frozen a):=⟨PX P a⟩
instance i_calm_choose (q:Question):IsCalm P (choose q):=⟨CU P q⟩
instance i_calm_noRoom:IsCalm P (mark .noRoom):=⟨PZ P⟩
instance i_calm_program:IsCalm P (program):=⟨vS P⟩
instance i_calm_env:IsCalm P (sys .env):=⟨PY P⟩
instance i_calm_stuck {α:Type} (s:String):IsCalm P ((stuck s:Sem α)):=⟨gZ P _ s⟩
instance i_calm_noEntry {α:Type} (s:String):IsCalm P ((unsupported (.noEntry s):Sem α)):=⟨Qb P _ s⟩
instance i_calm_unsafeP {α:Type} (s:String):IsCalm P ((unsupported (.unsafePointer s):Sem α)):=⟨Qc P _ s⟩
instance i_calm_resource {α:Type} (s:String):IsCalm P ((unsupported (.resourceLimit s):Sem α)):=⟨Qd P _ s⟩
instance i_calm_observed {α:Type}:IsCalm P ((unsupported .addressObserved:Sem α)):=⟨Qe P _⟩
instance i_calm_extern {α:Type} (s:String):IsCalm P ((unsupported (.extern s):Sem α)):=⟨Qg P _ s⟩
instance i_calm_goPanic {α:Type} (v:vL):IsCalm P ((goPanic v:Sem α)):=⟨Ir P _ v⟩
theorem Ql (n:Nat):ah P (askRoom n):=by
 unfold askRoom;exact ac P
instance i_c_askRoom (n:Nat):IsCalm P (askRoom n):=⟨Ql P n⟩
theorem Qm (r:Nat):ah P (viewAt r):=by
 unfold viewAt;exact ac P
instance i_c_viewAt (r:Nat):IsCalm P (viewAt r):=⟨Qm P r⟩
theorem Qn (r:Nat):ah P (numberAt r):=by
 unfold numberAt;exact ac P
instance i_c_numberAt (r:Nat):IsCalm P (numberAt r):=⟨Qn P r⟩
theorem Qo (r:Nat):ah P (cellsIn r):=by
 unfold cellsIn;exact ac P
instance i_c_cellsIn (r:Nat):IsCalm P (cellsIn r):=⟨Qo P r⟩
theorem Qp (a:aD) (l:Bool):ah P (asNumber a l):=by
 unfold asNumber;exact ac P
instance i_c_asNumber (a:aD) (l:Bool):IsCalm P (asNumber a l):=⟨Qp P a l⟩
theorem Qq (a:aD):ah P (behindNumber a):=by
 unfold behindNumber;exact ac P
instance i_c_behindNumber (a:aD):IsCalm P (behindNumber a):=⟨Qq P a⟩
theorem Qr (a:aD):ah P (backFromNumber a):=by
 unfold backFromNumber;exact ac P
instance i_c_backFromNumber (a:aD):IsCalm P (backFromNumber a):=⟨Qr P a⟩
theorem Qs (a:aD):ah P (noView a):=by
 unfold noView;exact ac P
instance i_c_noView (a:aD):IsCalm P (noView a):=⟨Qs P a⟩
theorem Qu (a:aD):ah P (markStringish a):=by
 unfold markStringish;exact ac P
instance i_c_markStringish (a:aD):IsCalm P (markStringish a):=⟨Qu P a⟩
theorem Qv (a:aD):ah P (stringish a):=by
 unfold stringish;exact ac P
instance i_c_stringish (a:aD):IsCalm P (stringish a):=⟨Qv P a⟩
theorem Qw (a b:aD):ah P (mayBeOne a b):=by
 unfold mayBeOne;exact ac P
instance i_c_mayBeOne (a b:aD):IsCalm P (mayBeOne a b):=⟨Qw P a b⟩
theorem Qx (a b:aD):ah P (sameAddr a b):=by
 unfold sameAddr;exact ac P
instance i_c_sameAddr (a b:aD):IsCalm P (sameAddr a b):=⟨Qx P a b⟩
theorem Qy (a b:Option aD):ah P (samePointer a b):=by
 unfold samePointer;exact ac P
instance i_c_samePointer (a b:Option aD):IsCalm P (samePointer a b):=⟨Qy P a b⟩
theorem Iu (t:tI):ah P (typeInfo t):=by
 unfold typeInfo;exact ac P
instance i_c_typeInfo (t:tI):IsCalm P (typeInfo t):=⟨Iu P t⟩
theorem vU (t:tI):ah P (underlying t):=by
 unfold underlying;exact ac P
instance i_c_underlying (t:tI):IsCalm P (underlying t):=⟨vU P t⟩
theorem Qz (t:String):ah P (cutType t):=by
 unfold cutType;exact ac P
instance i_c_cutType (t:String):IsCalm P (cutType t):=⟨Qz P t⟩
theorem QA (t:String):ah P (globalAddr t):=by
 unfold globalAddr;exact ac P
instance i_c_globalAddr (t:String):IsCalm P (globalAddr t):=⟨QA P t⟩
theorem Iw (t:tI):ah P (typeStr t):=by
 unfold typeStr;exact ac P
instance i_c_typeStr (t:tI):IsCalm P (typeStr t):=⟨Iw P t⟩
theorem CX (t:tI):ah P (zeroValue t):=by
 unfold zeroValue;exact ac P
instance i_c_zeroValue (t:tI):IsCalm P (zeroValue t):=⟨CX P t⟩
theorem QB (t:tI):ah P (sizeOf t):=by
 unfold Go.sizeOf;exact ac P
instance i_c_sizeOf (t:tI):IsCalm P (sizeOf t):=⟨QB P t⟩
theorem QC (t:tI):ah P (isAgg t):=by
 unfold isAgg;exact ac P
instance i_c_isAgg (t:tI):IsCalm P (isAgg t):=⟨QC P t⟩
theorem Iy (a:aD): ∀(n i:Nat) (acc:Array vL),ah P (loadCellsFrom a i n acc)
 | 0,_,_=>trivial
 |n+1,i,acc=>by unfold loadCellsFrom;exact aF (Ip P _ _) fun _=>Iy a n (i+1) _
theorem QD (a:aD) (n:Nat):ah P (loadCells a n):=Iy P a n 0 #[]
theorem Iz (a:aD): ∀(vs:List vL) (i:Nat),ah P (storeCells a vs i)
 | [],_=>trivial
 |v::vs,i=>by unfold storeCells;exact aF (Iq P _ _ _) fun _=>Iz a vs (i+1)
instance i_c_loadCells (a:aD) (n:Nat):IsCalm P (loadCells a n):=⟨QD P a n⟩
instance i_c_storeCells (a:aD) (l:List vL) (i:Nat):IsCalm P (storeCells a l i):=⟨Iz P a l i⟩
theorem CY (t:tI) (a:aD):ah P (loadVar t a):=by
 unfold loadVar;exact ac P
instance i_c_loadVar (t:tI) (a:aD):IsCalm P (loadVar t a):=⟨CY P t a⟩
theorem QE (t:tI) (a:aD) (v:vL):ah P (storeVar t a v):=by
 unfold storeVar;exact ac P
instance i_c_storeVar (t:tI) (a:aD) (v:vL):IsCalm P (storeVar t a v):=⟨QE P t a v⟩
theorem QF (t:tI) (a:Array vL):ah P (newRow t a):=by
 unfold newRow;exact ac P
instance i_c_newRow (t:tI) (a:Array vL):IsCalm P (newRow t a):=⟨QF P t a⟩
theorem QG (t:tI) (a:vL):ah P (newVar t a):=by
 unfold newVar;exact ac P
instance i_c_newVar (t:tI) (a:vL):IsCalm P (newVar t a):=⟨QG P t a⟩
theorem QH (t:tI):ah P (elemOf t):=by
 unfold elemOf;exact ac P
instance i_c_elemOf (t:tI):IsCalm P (elemOf t):=⟨QH P t⟩
theorem QI (t:tI) (a:Array vL) (o:Nat):ah P (part t a o):=by
 unfold part;exact ac P
instance i_c_part (t:tI) (a:Array vL) (o:Nat):IsCalm P (part t a o):=⟨QI P t a o⟩
theorem QJ {α:Type} (m:String):ah P (panicString m:Sem α):=by
 unfold panicString;exact ac P
theorem IB {α:Type} (e:RuntimeError):ah P (runtimePanic e:Sem α):=by
 unfold runtimePanic;exact ac P
instance i_c_panicString {α:Type} (m:String):IsCalm P ((panicString m:Sem α)):=⟨QJ P m⟩
instance i_c_runtimePanic {α:Type} (m:RuntimeError):IsCalm P ((runtimePanic m:Sem α)):=⟨IB P m⟩
theorem QK {α:Type} (k:IntKind) (x y:Int) (c:BoundsCode):ah P (boundsPanic k x y c:Sem α):=by
 unfold boundsPanic;exact ac P
instance i_c_boundsPanic {α:Type} (k:IntKind) (x y:Int) (c:BoundsCode):IsCalm P ((boundsPanic k x y c:Sem α)):=⟨QK P k x y c⟩
theorem QL (v:vL):ah P (asIntOf v):=by
 unfold asIntOf;exact ac P
instance i_c_asIntOf (v:vL):IsCalm P (asIntOf v):=⟨QL P v⟩
theorem CZ (v:vL):ah P (asInt v):=by
 unfold asInt;exact ac P
instance i_c_asInt (v:vL):IsCalm P (asInt v):=⟨CZ P v⟩
theorem IC (v:vL):ah P (asBool v):=by
 unfold asBool;exact ac P
instance i_c_asBool (v:vL):IsCalm P (asBool v):=⟨IC P v⟩
theorem vV (v:vL):ah P (asString v):=by
 unfold asString;exact ac P
instance i_c_asString (v:vL):IsCalm P (asString v):=⟨vV P v⟩
theorem Dc (v:vL):ah P (asAgg v):=by
 unfold asAgg;exact ac P
instance i_c_asAgg (v:vL):IsCalm P (asAgg v):=⟨Dc P v⟩
theorem IE (v:vL):ah P (asAddr v):=by
 unfold asAddr;exact ac P
instance i_c_asAddr (v:vL):IsCalm P (asAddr v):=⟨IE P v⟩
theorem QM (a:aD):ah P (byteOf a):=by
 unfold byteOf;exact ac P
instance i_c_byteOf (a:aD):IsCalm P (byteOf a):=⟨QM P a⟩
theorem QN (a:aD) (n m:Nat):ah P (partAt a n m):=by
 unfold partAt;exact ac P
instance i_c_partAt (a:aD) (n m:Nat):IsCalm P (partAt a n m):=⟨QN P a n m⟩
theorem QO (a:aD) (f:Field):ah P (fieldPlace a f):=by
 unfold fieldPlace;exact ac P
instance i_c_fieldPlace (a:aD) (f:Field):IsCalm P (fieldPlace a f):=⟨QO P a f⟩
theorem QS (v:vL):ah P (Instr.sureAddr v):=by
 unfold Instr.sureAddr;exact ac P
instance i_c_Instr_sureAddr (v:vL):IsCalm P (Instr.sureAddr v):=⟨QS P v⟩
theorem QT (t:tI) (v:vL):ah P (Instr.loadAt t v):=by
 unfold Instr.loadAt;exact ac P
instance i_c_Instr_loadAt (t:tI) (v:vL):IsCalm P (Instr.loadAt t v):=⟨QT P t v⟩
theorem QU (t:tI) (v x:vL):ah P (Instr.storeAt t v x):=by
 unfold Instr.storeAt;exact ac P
instance i_c_Instr_storeAt (t:tI) (v x:vL):IsCalm P (Instr.storeAt t v x):=⟨QU P t v x⟩
theorem QV (t:tI) (v:vL) (x:Nat):ah P (Instr.fieldAt t v x):=by
 unfold Instr.fieldAt;exact ac P
instance i_c_Instr_fieldAt (t:tI) (v:vL) (x:Nat):IsCalm P (Instr.fieldAt t v x):=⟨QV P t v x⟩
theorem QW (t:tI) (v x:vL):ah P (Instr.indexAt t v x):=by
 unfold Instr.indexAt;exact ac P
instance i_c_Instr_indexAt (t:tI) (v x:vL):IsCalm P (Instr.indexAt t v x):=⟨QW P t v x⟩
theorem QX (x:vL) (y:Nat) (c:BoundsCode):ah P (Instr.sliceBound x y c):=by
 unfold Instr.sliceBound;exact ac P
instance i_c_Instr_sliceBound (x:vL) (y:Nat) (c:BoundsCode):IsCalm P (Instr.sliceBound x y c):=⟨QX P x y c⟩
theorem QY (s:Bool) (l c:Nat) (x y z:Option vL):ah P (Instr.sliceBounds s l c x y z):=by
 unfold Instr.sliceBounds;exact ac P
instance i_c_Instr_sliceBounds (s:Bool) (l c:Nat) (x y z:Option vL):IsCalm P (Instr.sliceBounds s l c x y z):=⟨QY P s l c x y z⟩
theorem QZ (t:tI) (x:vL) (l h m:Option vL):ah P (Instr.slice t x l h m):=by
 unfold Instr.slice;exact ac P
instance i_c_Instr_slice (t:tI) (x:vL) (l h m:Option vL):IsCalm P (Instr.slice t x l h m):=⟨QZ P t x l h m⟩
theorem Rf (t:tI) (x:vL) (l h m:Option vL):ah P (Instr.sliceAt t x l h m):=by
 unfold Instr.sliceAt;exact ac P
instance i_c_Instr_sliceAt (t:tI) (x:vL) (l h m:Option vL):IsCalm P (Instr.sliceAt t x l h m):=⟨Rf P t x l h m⟩
theorem Rh (t:tI) (x:vL):ah P (Instr.arrayAt t x):=by
 unfold Instr.arrayAt;exact ac P
instance i_c_Instr_arrayAt (t:tI) (x:vL):IsCalm P (Instr.arrayAt t x):=⟨Rh P t x⟩
theorem Ri (t:tI) (b:Bool) (x:vL):ah P (Instr.alloc t b x):=by
 unfold Instr.alloc;exact ac P
instance i_c_Instr_alloc (t:tI) (b:Bool) (x:vL):IsCalm P (Instr.alloc t b x):=⟨Ri P t b x⟩
theorem Rj (t:tI) (x:vL):ah P (Instr.box t x):=by
 unfold Instr.box;exact ac P
instance i_c_Instr_box (t:tI) (x:vL):IsCalm P (Instr.box t x):=⟨Rj P t x⟩
theorem Rk (t:tI) (x:Array (Nat×vL)):ah P (Instr.build t x):=by
 unfold Instr.build;exact ac P
instance i_c_Instr_build (t:tI) (x:Array (Nat×vL)):IsCalm P (Instr.build t x):=⟨Rk P t x⟩
theorem Rn (t:tI) (n:Nat) (x:Array (Nat×vL)):ah P (Instr.buildSlice t n x):=by
 unfold Instr.buildSlice;exact ac P
instance i_c_Instr_buildSlice (t:tI) (n:Nat) (x:Array (Nat×vL)):IsCalm P (Instr.buildSlice t n x):=⟨Rn P t n x⟩
theorem Ro (x:vL):ah P (Instr.entry x):=by
 unfold Instr.entry;exact ac P
instance i_c_Instr_entry (x:vL):IsCalm P (Instr.entry x):=⟨Ro P x⟩
theorem Rq:ah P (Instr.panicnil):=by
 unfold Instr.panicnil;exact ac P
instance i_c_Instr_panicnil:IsCalm P (Instr.panicnil):=⟨Rq P⟩
theorem Rt (x:vL):ah P (Instr.panic x):=by
 unfold Instr.panic;exact ac P
instance i_c_Instr_panic (x:vL):IsCalm P (Instr.panic x):=⟨Rt P x⟩
theorem Ru (x:vL) (n:Nat):ah P (Instr.extract x n):=by
 unfold Instr.extract;exact ac P
instance i_c_Instr_extract (x:vL) (n:Nat):IsCalm P (Instr.extract x n):=⟨Ru P x n⟩
theorem anY (t:tI) (x:vL) (n:Nat):ah P (Instr.field t x n):=by
 unfold Instr.field;exact ac P
instance i_c_Instr_field (t:tI) (x:vL) (n:Nat):IsCalm P (Instr.field t x n):=⟨anY P t x n⟩
theorem Rx (t:tI) (x y:vL):ah P (Instr.index t x y):=by
 unfold Instr.index;exact ac P
instance i_c_Instr_index (t:tI) (x y:vL):IsCalm P (Instr.index t x y):=⟨Rx P t x y⟩
theorem Ry (o:BinOp) (k:IntKind) (x y:Int):ah P (Op.intArith o k x y):=by
 unfold Op.intArith;exact ac P
instance i_c_Op_intArith (o:BinOp) (k:IntKind) (x y:Int):IsCalm P (Op.intArith o k x y):=⟨Ry P o k x y⟩
theorem Rz (o:BinOp) (k:IntKind) (x y:Int):ah P (Op.intDiv o k x y):=by
 unfold Op.intDiv;exact ac P
instance i_c_Op_intDiv (o:BinOp) (k:IntKind) (x y:Int):IsCalm P (Op.intDiv o k x y):=⟨Rz P o k x y⟩
theorem RD (o:BinOp) (k:IntKind) (x y:Int):ah P (Op.intBits o k x y):=by
 unfold Op.intBits;exact ac P
instance i_c_Op_intBits (o:BinOp) (k:IntKind) (x y:Int):IsCalm P (Op.intBits o k x y):=⟨RD P o k x y⟩
theorem RF (o:BinOp) (x y:Int):ah P (Op.intCmp o x y):=by
 unfold Op.intCmp;exact ac P
instance i_c_Op_intCmp (o:BinOp) (x y:Int):IsCalm P (Op.intCmp o x y):=⟨RF P o x y⟩
theorem RG (o:BinOp) (k:IntKind) (x:Int) (k2:IntKind) (y:Int):ah P (Op.shift o k x k2 y):=by
 unfold Op.shift;exact ac P
instance i_c_Op_shift (o:BinOp) (k:IntKind) (x:Int) (k2:IntKind) (y:Int):IsCalm P (Op.shift o k x k2 y):=⟨RG P o k x k2 y⟩
theorem RI (o:BinOp) (x y:ByteArray):ah P (Op.stringOp o x y):=by
 unfold Op.stringOp;exact ac P
instance i_c_Op_stringOp (o:BinOp) (x y:ByteArray):IsCalm P (Op.stringOp o x y):=⟨RI P o x y⟩
theorem RJ (o:UnOp) (x:vL):ah P (Op.unary o x):=by
 unfold Op.unary;exact ac P
instance i_c_Op_unary (o:UnOp) (x:vL):IsCalm P (Op.unary o x):=⟨RJ P o x⟩
theorem RN (o:BinOp) (k:FloatKind) (x y:Nat):ah P (Op.floatArith o k x y):=by
 unfold Op.floatArith;exact ac P
instance i_c_Op_floatArith (o:BinOp) (k:FloatKind) (x y:Nat):IsCalm P (Op.floatArith o k x y):=⟨RN P o k x y⟩
theorem RP (o:BinOp) (k:FloatKind) (x y:Nat):ah P (Op.floatCmp o k x y):=by
 unfold Op.floatCmp;exact ac P
instance i_c_Op_floatCmp (o:BinOp) (k:FloatKind) (x y:Nat):IsCalm P (Op.floatCmp o k x y):=⟨RP P o k x y⟩
theorem IG: ∀(d:Nat) (t:tI) (x y:vL),ah P (Op.equalIn d t x y)
 | 0,_,_,_=>trivial
 |d+1,t,x,y=>by
  have ih:=IG d
  haveI: ∀t x y,IsCalm P (Op.equalIn d t x y):=fun t x y=>⟨ih t x y⟩
  clear ih;unfold Op.equalIn;exact ac P
instance i_equalIn (d:Nat) (t:tI) (x y:vL):IsCalm P (Op.equalIn d t x y):=⟨IG P d t x y⟩
theorem II: ∀(d:Nat) (t:tI) (x y:vL),ah P (Op.eqGuardIn d t x y)
 | 0,_,_,_=>trivial
 |d+1,t,x,y=>by
  have ih:=II d
  haveI: ∀t x y,IsCalm P (Op.eqGuardIn d t x y):=fun t x y=>⟨ih t x y⟩
  clear ih;unfold Op.eqGuardIn;exact ac P
instance i_eqGuardIn (d:Nat) (t:tI) (x y:vL):IsCalm P (Op.eqGuardIn d t x y):=⟨II P d t x y⟩
theorem RQ (t:tI) (x y:vL):ah P (Op.equal t x y):=by
 unfold Op.equal;exact ac P
instance i_c_Op_equal (t:tI) (x y:vL):IsCalm P (Op.equal t x y):=⟨RQ P t x y⟩
theorem IJ (o:BinOp) (t:tI) (x y:Operand) (a b:vL):ah P (eqGuard o t x y a b):=by
 unfold eqGuard;exact ac P
instance i_c_eqGuard (o:BinOp) (t:tI) (x y:Operand) (a b:vL):IsCalm P (eqGuard o t x y a b):=⟨IJ P o t x y a b⟩
theorem RS (a b:aD):ah P (Op.twoPlaces a b):=by
 unfold Op.twoPlaces;exact ac P
instance i_c_Op_twoPlaces (a b:aD):IsCalm P (Op.twoPlaces a b):=⟨RS P a b⟩
theorem RU (k:IntKind) (a b:aD):ah P (Op.addrSub k a b):=by
 unfold Op.addrSub;exact ac P
instance i_c_Op_addrSub (k:IntKind) (a b:aD):IsCalm P (Op.addrSub k a b):=⟨RU P k a b⟩
theorem RV (o:BinOp) (a b:aD):ah P (Op.addrCmp o a b):=by
 unfold Op.addrCmp;exact ac P
instance i_c_Op_addrCmp (o:BinOp) (a b:aD):IsCalm P (Op.addrCmp o a b):=⟨RV P o a b⟩
theorem RX (k:IntKind) (a:aD) (n:Int):ah P (Op.addrMod k a n):=by
 unfold Op.addrMod;exact ac P
instance i_c_Op_addrMod (k:IntKind) (a:aD) (n:Int):IsCalm P (Op.addrMod k a n):=⟨RX P k a n⟩
theorem RY (o:BinOp) (k:FloatKind) (x y:Nat):ah P (Op.Complex.arith o k x y):=by
 unfold Op.Complex.arith;exact ac P
instance i_c_Op_Complex_arith (o:BinOp) (k:FloatKind) (x y:Nat):IsCalm P (Op.Complex.arith o k x y):=⟨RY P o k x y⟩
end
section
variable (P:pQ)
theorem RZ (t:Array tI) (u:tI) (a:Array vL):ah P (Builtin.unsafeAdd_ t u a):=by
 obtain⟨l⟩:=a
 rcases l with _ |⟨x0,_ |⟨x1,_ |⟨x2,r⟩⟩⟩
 ·exact trivial
 ·exact trivial
 ·cases x0 with
  |pointer p=>
   show ah P (asInt x1 >>= _)
   refine aF IsCalm.out (fun _=> ?_);exact ac P
  |_=>exact trivial
 ·exact trivial
instance i_c_Builtin_unsafeAdd_ (t:Array tI) (u:tI) (a:Array vL):IsCalm P (Builtin.unsafeAdd_ t u a):=⟨RZ P t u a⟩
theorem Si (k:FloatKind) (x:Nat) (d:FloatKind):ah P (Conv.floatToFloat k x d):=by
 unfold Conv.floatToFloat;exact ac P
instance i_c_Conv_floatToFloat (k:FloatKind) (x:Nat) (d:FloatKind):IsCalm P (Conv.floatToFloat k x d):=⟨Si P k x d⟩
theorem Sj (t:tI) (x y:vL):ah P (movedNumber t x y):=by
 unfold movedNumber;exact ac P
instance i_c_movedNumber (t:tI) (x y:vL):IsCalm P (movedNumber t x y):=⟨Sj P t x y⟩
theorem Sm (t:tI) (x y:vL):ah P (movedPointer t x y):=by
 unfold movedPointer;exact ac P
instance i_c_movedPointer (t:tI) (x y:vL):IsCalm P (movedPointer t x y):=⟨Sm P t x y⟩
theorem Sr (o:BinOp) (k:FloatKind) (x y:Nat):ah P (Op.Complex.cmp o k x y):=by
 unfold Op.Complex.cmp;exact ac P
instance i_c_Op_Complex_cmp (o:BinOp) (k:FloatKind) (x y:Nat):IsCalm P (Op.Complex.cmp o k x y):=⟨Sr P o k x y⟩
theorem Sv (k:FloatKind) (x:Nat) (k2:FloatKind):ah P (Op.Complex.conv k x k2):=by
 unfold Op.Complex.conv;exact ac P
instance i_c_Op_Complex_conv (k:FloatKind) (x:Nat) (k2:FloatKind):IsCalm P (Op.Complex.conv k x k2):=⟨Sv P k x k2⟩
theorem Sz (a b c d:Nat):ah P (Op.Complex.product a b c d):=by
 unfold Op.Complex.product;exact ac P
instance i_c_Op_Complex_product (a b c d:Nat):IsCalm P (Op.Complex.product a b c d):=⟨Sz P a b c d⟩
theorem SA (s a b c d:Nat):ah P (Op.Complex.corrected s a b c d):=by
 unfold Op.Complex.corrected;exact ac P
instance i_c_Op_Complex_corrected (s a b c d:Nat):IsCalm P (Op.Complex.corrected s a b c d):=⟨SA P s a b c d⟩
theorem SB (a b c d:Nat):ah P (Op.Complex.quotient a b c d):=by
 unfold Op.Complex.quotient;exact ac P
instance i_c_Op_Complex_quotient (a b c d:Nat):IsCalm P (Op.Complex.quotient a b c d):=⟨SB P a b c d⟩
theorem SC (o:BinOp) (k:FloatKind) (a b c d:Nat):ah P (Op.complexOp o k a b c d):=by
 unfold Op.complexOp;exact ac P
instance i_c_Op_complexOp (o:BinOp) (k:FloatKind) (a b c d:Nat):IsCalm P (Op.complexOp o k a b c d):=⟨SC P o k a b c d⟩
theorem IK (o:BinOp) (t:tI) (x y:vL):ah P (binOp o t x y):=by
 unfold binOp;exact ac P
instance i_c_binOp (o:BinOp) (t:tI) (x y:vL):IsCalm P (binOp o t x y):=⟨IK P o t x y⟩
theorem SE (k:IntKind) (x:Int):ah P (Conv.intToInt k x):=by
 unfold Conv.intToInt;exact ac P
instance i_c_Conv_intToInt (k:IntKind) (x:Int):IsCalm P (Conv.intToInt k x):=⟨SE P k x⟩
theorem SG (k:FloatKind) (x:Int):ah P (Conv.intToFloat k x):=by
 unfold Conv.intToFloat;exact ac P
instance i_c_Conv_intToFloat (k:FloatKind) (x:Int):IsCalm P (Conv.intToFloat k x):=⟨SG P k x⟩
theorem SH (k:FloatKind) (x:Nat) (d:IntKind):ah P (Conv.floatToInt k x d):=by
 unfold Conv.floatToInt;exact ac P
instance i_c_Conv_floatToInt (k:FloatKind) (x:Nat) (d:IntKind):IsCalm P (Conv.floatToInt k x d):=⟨SH P k x d⟩
theorem SI (k:FloatKind) (x y:Nat) (d:FloatKind):ah P (Conv.complexToComplex k x y d):=by
 unfold Conv.complexToComplex;exact ac P
instance i_c_Conv_complexToComplex (k:FloatKind) (x y:Nat) (d:FloatKind):IsCalm P (Conv.complexToComplex k x y d):=⟨SI P k x y d⟩
theorem SK (x:Int):ah P (Conv.intToString x):=by
 unfold Conv.intToString;exact ac P
instance i_c_Conv_intToString (x:Int):IsCalm P (Conv.intToString x):=⟨SK P x⟩
theorem SL (t:tI) (x:ByteArray):ah P (Conv.stringToBytes t x):=by
 unfold Conv.stringToBytes;exact ac P
instance i_c_Conv_stringToBytes (t:tI) (x:ByteArray):IsCalm P (Conv.stringToBytes t x):=⟨SL P t x⟩
theorem SN (t:tI) (x:ByteArray):ah P (Conv.stringToRunes t x):=by
 unfold Conv.stringToRunes;exact ac P
instance i_c_Conv_stringToRunes (t:tI) (x:ByteArray):IsCalm P (Conv.stringToRunes t x):=⟨SN P t x⟩
theorem SQ (x:vL):ah P (Conv.bytesToString x):=by
 unfold Conv.bytesToString;exact ac P
instance i_c_Conv_bytesToString (x:vL):IsCalm P (Conv.bytesToString x):=⟨SQ P x⟩
theorem SS (x:vL):ah P (Conv.runesToString x):=by
 unfold Conv.runesToString;exact ac P
instance i_c_Conv_runesToString (x:vL):IsCalm P (Conv.runesToString x):=⟨SS P x⟩
theorem SV (x:aD):ah P (Conv.seenAt x):=by
 unfold Conv.seenAt;exact ac P
instance i_c_Conv_seenAt (x:aD):IsCalm P (Conv.seenAt x):=⟨SV P x⟩
theorem SX (t u:tI) (x:vL):ah P (Conv.unsafePointer t u x):=by
 unfold Conv.unsafePointer;exact ac P
instance i_c_Conv_unsafePointer (t u:tI) (x:vL):IsCalm P (Conv.unsafePointer t u x):=⟨SX P t u x⟩
theorem SY (t u:tI) (x:vL):ah P (convert t u x):=by
 unfold Go.convert;exact ac P
instance i_c_convert (t u:tI) (x:vL):IsCalm P (convert t u x):=⟨SY P t u x⟩
theorem Tc (t:tI) (x:vL):ah P (Instr.makeInterface t x):=by
 unfold Instr.makeInterface;exact ac P
instance i_c_Instr_makeInterface (t:tI) (x:vL):IsCalm P (Instr.makeInterface t x):=⟨Tc P t x⟩
theorem Td (f:Fn) (x y:Array vL):ah P (Instr.makeFunc f x y):=by
 unfold Instr.makeFunc;exact ac P
instance i_c_Instr_makeFunc (f:Fn) (x y:Array vL):IsCalm P (Instr.makeFunc f x y):=⟨Td P f x y⟩
theorem Tf (t:tI) (x:Option vL):ah P (Instr.makeMap t x):=by
 unfold Instr.makeMap;exact ac P
instance i_c_Instr_makeMap (t:tI) (x:Option vL):IsCalm P (Instr.makeMap t x):=⟨Tf P t x⟩
theorem Ti (t:tI):ah P (Instr.makeChan t (iN qi 0)):=by
 unfold Instr.makeChan;have e:asInt (iN qi 0)=pure 0:=rfl;rw[e,pure_bind];refine aF IsCalm.out fun u=> ?_
 split
 ·refine aF IsCalm.out fun i=> ?_;refine jG (fun _=> ?_) (fun _=> ?_)
  ·exact aF IsCalm.out fun _=>aF (pV P ⟨⟨rfl,rfl,rfl,rfl⟩,rfl⟩) fun _=>dI P _
  ·exact aF (pV P ⟨⟨rfl,rfl,rfl,rfl⟩,rfl⟩) fun _=>dI P _
 ·exact gZ P _ _
instance i_makeChan (t:tI):IsCalm P (Instr.makeChan t (iN qi 0)):=⟨Ti P t⟩
theorem Tj (t:tI) (x y:vL):ah P (Instr.makeSlice t x y):=by
 unfold Instr.makeSlice;exact ac P
instance i_c_Instr_makeSlice (t:tI) (x y:vL):IsCalm P (Instr.makeSlice t x y):=⟨Tj P t x y⟩
theorem IL (e:Bool): ∀(d:Nat) (t:tI) (x:vL),ah P (Instr.checkKey e d t x)
 | 0,_,_=>trivial
 |d+1,t,x=>by
  have ih:=IL e d
  haveI: ∀t x,IsCalm P (Instr.checkKey e d t x):=fun t x=>⟨ih t x⟩
  clear ih;unfold Instr.checkKey;exact ac P
instance i_checkKey (e:Bool) (d:Nat) (t:tI) (x:vL):IsCalm P (Instr.checkKey e d t x):=⟨IL P e d t x⟩
theorem IQ (t:tI) (k:vL): ∀(es:List MapEntry) (i:Nat),ah P (Instr.findAsking t k es i)
 | [],_=>trivial
 |e::es,i=>by
  have ih:=IQ t k es
  haveI: ∀i,IsCalm P (Instr.findAsking t k es i):=fun i=>⟨ih i⟩
  clear ih;unfold Instr.findAsking;exact ac P
instance i_findAsking (t:tI) (k:vL) (es:List MapEntry) (i:Nat):IsCalm P (Instr.findAsking t k es i):=⟨IQ P t k es i⟩
theorem Tm (t:tI) (k:vL) (es:List MapEntry):ah P (Instr.findKey t k es):=by
 unfold Instr.findKey;exact ac P
instance i_c_Instr_findKey (t:tI) (k:vL) (es:List MapEntry):IsCalm P (Instr.findKey t k es):=⟨Tm P t k es⟩
theorem Tn (t:tI) (x y:vL) (b:Bool):ah P (Instr.lookup t x y b):=by
 unfold Instr.lookup;exact ac P
instance i_c_Instr_lookup (t:tI) (x y:vL) (b:Bool):IsCalm P (Instr.lookup t x y b):=⟨Tn P t x y b⟩
theorem Tq (x y:vL):ah P (Instr.keyThatStays x y):=by
 unfold Instr.keyThatStays;exact ac P
instance i_c_Instr_keyThatStays (x y:vL):IsCalm P (Instr.keyThatStays x y):=⟨Tq P x y⟩
theorem Tt (t:tI) (x y z:vL):ah P (Instr.mapUpdate t x y z):=by
 unfold Instr.mapUpdate;exact ac P
instance i_c_Instr_mapUpdate (t:tI) (x y z:vL):IsCalm P (Instr.mapUpdate t x y z):=⟨Tt P t x y z⟩
theorem Tv (t:tI) (x y:vL):ah P (Instr.mapEntry t x y):=by
 unfold Instr.mapEntry;exact ac P
instance i_c_Instr_mapEntry (t:tI) (x y:vL):IsCalm P (Instr.mapEntry t x y):=⟨Tv P t x y⟩
theorem Tz (t:tI) (x y z:vL):ah P (Instr.entryStore t x y z):=by
 unfold Instr.entryStore;exact ac P
instance i_c_Instr_entryStore (t:tI) (x y z:vL):IsCalm P (Instr.entryStore t x y z):=⟨Tz P t x y z⟩
theorem TA (x:vL) (b:Bool) (t:tI):ah P (Instr.next x b t):=by
 unfold Instr.next;exact ac P
instance i_c_Instr_next (x:vL) (b:Bool) (t:tI):IsCalm P (Instr.next x b t):=⟨TA P x b t⟩
theorem TB (t:tI) (x:vL):ah P (Instr.range t x):=by
 unfold Instr.range;refine aF (vU P _) fun d=> ?_;have k: ∀s:Sem Obj,Calm P (fun o=>o.started/\isFin o=false) s->ah P (s >>= fun it=>newObj it >>= fun r=>(pure (Value.pointer (some ⟨r,0,none⟩)):Sem vL)):=
  fun s hs=>jF hs fun o ho=>aF (pV P ho) fun _=>dI P _
 dsimp only
 split
 ·exact k _ ⟨trivial,rfl⟩
 ·exact k _ ⟨trivial,rfl⟩
 ·refine vT _ (fun o _=> ?_) (.inl ⟨_,rfl⟩)
  split
  ·exact k _ ⟨trivial,rfl⟩
  ·exact k _ (gZ P _ _)
 ·exact k _ (gZ P _ _)
instance i_c_Instr_range (t:tI) (x:vL):IsCalm P (Instr.range t x):=⟨TB P t x⟩
theorem TD (x:vL) (t u:tI) (b:Bool):ah P (Instr.typeAssert x t u b):=by
 unfold Instr.typeAssert;exact ac P
instance i_c_Instr_typeAssert (x:vL) (t u:tI) (b:Bool):IsCalm P (Instr.typeAssert x t u b):=⟨TD P x t u b⟩
theorem TF (a:aD) (n:Nat):ah P (Builtin.holdsCells a n):=by
 unfold Builtin.holdsCells;exact ac P
instance i_c_Builtin_holdsCells (a:aD) (n:Nat):IsCalm P (Builtin.holdsCells a n):=⟨TF P a n⟩
theorem TG (a b c:Nat) (d:Option aD) (x:vL):ah P (Builtin.mayShare a b c d x):=by
 unfold Builtin.mayShare;exact ac P
instance i_c_Builtin_mayShare (a b c:Nat) (d:Option aD) (x:vL):IsCalm P (Builtin.mayShare a b c d x):=⟨TG P a b c d x⟩
theorem TI (x:vL):ah P (Builtin.lenOf x):=by
 unfold Builtin.lenOf;exact ac P
instance i_c_Builtin_lenOf (x:vL):IsCalm P (Builtin.lenOf x):=⟨TI P x⟩
theorem TJ (a b:Nat) (x:vL):ah P (Builtin.firstCells a b x):=by
 unfold Builtin.firstCells;exact ac P
instance i_c_Builtin_firstCells (a b:Nat) (x:vL):IsCalm P (Builtin.firstCells a b x):=⟨TJ P a b x⟩
theorem TK (t:Array tI) (u:tI) (a:Array vL):ah P (Builtin.append_ t u a):=by
 unfold Builtin.append_;exact ac P
instance i_c_Builtin_append_ (t:Array tI) (u:tI) (a:Array vL):IsCalm P (Builtin.append_ t u a):=⟨TK P t u a⟩
theorem TM (t:Array tI) (u:tI) (a:Array vL):ah P (Builtin.clear_ t u a):=by
 unfold Builtin.clear_;exact ac P
instance i_c_Builtin_clear_ (t:Array tI) (u:tI) (a:Array vL):IsCalm P (Builtin.clear_ t u a):=⟨TM P t u a⟩
theorem TN (t:Array tI) (u:tI) (a:Array vL):ah P (Builtin.copy_ t u a):=by
 unfold Builtin.copy_;exact ac P
instance i_c_Builtin_copy_ (t:Array tI) (u:tI) (a:Array vL):IsCalm P (Builtin.copy_ t u a):=⟨TN P t u a⟩
theorem TP (t:Array tI) (u:tI) (a:Array vL):ah P (Builtin.delete_ t u a):=by
 unfold Builtin.delete_;exact ac P
instance i_c_Builtin_delete_ (t:Array tI) (u:tI) (a:Array vL):IsCalm P (Builtin.delete_ t u a):=⟨TP P t u a⟩
theorem TQ (t:Array tI) (u:tI) (a:Array vL):ah P (Builtin.len_ t u a):=by
 unfold Builtin.len_;exact ac P
instance i_c_Builtin_len_ (t:Array tI) (u:tI) (a:Array vL):IsCalm P (Builtin.len_ t u a):=⟨TQ P t u a⟩
theorem TR (t:Array tI) (u:tI) (a:Array vL):ah P (Builtin.cap_ t u a):=by
 unfold Builtin.cap_;exact ac P
instance i_c_Builtin_cap_ (t:Array tI) (u:tI) (a:Array vL):IsCalm P (Builtin.cap_ t u a):=⟨TR P t u a⟩
theorem TS (x y:vL):ah P (Builtin.max2 x y):=by
 unfold Builtin.max2;exact ac P
instance i_c_Builtin_max2 (x y:vL):IsCalm P (Builtin.max2 x y):=⟨TS P x y⟩
theorem TT (x y:vL):ah P (Builtin.min2 x y):=by
 unfold Builtin.min2;exact ac P
instance i_c_Builtin_min2 (x y:vL):IsCalm P (Builtin.min2 x y):=⟨TT P x y⟩
theorem TU (t:Array tI) (u:tI) (a:Array vL):ah P (Builtin.max_ t u a):=by
 unfold Builtin.max_;exact ac P
instance i_c_Builtin_max_ (t:Array tI) (u:tI) (a:Array vL):IsCalm P (Builtin.max_ t u a):=⟨TU P t u a⟩
theorem TV (t:Array tI) (u:tI) (a:Array vL):ah P (Builtin.min_ t u a):=by
 unfold Builtin.min_;exact ac P
instance i_c_Builtin_min_ (t:Array tI) (u:tI) (a:Array vL):IsCalm P (Builtin.min_ t u a):=⟨TV P t u a⟩
end
def jH:Next->Prop
 | .value _ | .skip | .enter .. | .recover=>True
 | .comm _ b _=>b=true
 | .round _ _ _ a b=>codeOk false a=true/\codeOk false b=true
 | .defer d | .spawn d=>d.good
 |_=>False
def rU (P:pQ):Prop:= ∀f args,Calm P jH (callFunc f args)
section
variable {P:pQ}
theorem rV {s:Sem vL} (h:ah P s):Calm P jH (s >>= fun v=>pure (Next.value v)):=aF h fun _=>trivial
theorem vW {s:Sem Unit} (h:ah P s):Calm P jH (s >>= fun _=>pure Next.skip):=aF h fun _=>trivial
theorem Df (t:tI) (p:Place):ah P (p.get t):=by
 cases p with
 |val v=>exact trivial
 |var a=>exact CY P t a
theorem Dh: ∀(l:List FieldStep) (t:tI) (p:Place),ah P (follow l t p)
 | [],_,_=>trivial
 |s::rest,t,x=>by
  have ih:=Dh rest
  haveI: ∀t p,IsCalm P (follow rest t p):=fun t p=>⟨ih t p⟩
  haveI: ∀t p,IsCalm P (Place.get t p):=fun t p=>⟨Df t p⟩
  clear ih;unfold follow
  (repeat' first
  |exact dI _ _
  |exact IsCalm.out
  | (refine aF ?_ (fun _=> ?_))
  | (refine jG (fun _=> ?_) (fun _=> ?_))
  |split
  |exact trivial
  |dsimp only)
theorem TW (t u:tI) (x y z:vL):ah P (Builtin.ssaWrapNilChk_ #[t] u #[x,y,z]):=by
 unfold Builtin.ssaWrapNilChk_
 cases y with
 |string a=>cases z with
  |string b=>
   cases x with
   |pointer p=>
    cases p with
    |some p=>exact trivial
    |none=>
     show ah P (choose (.extern "ssa:wrapnilchk.dereferenced" 2) >>= _)
     refine aF (CU P _) fun k=> ?_
     (repeat' first
     |exact dI _ _
     |exact IsCalm.out
     | (refine aF ?_ (fun _=> ?_))
     | (refine jG (fun _=> ?_) (fun _=> ?_))
     |split
     |exact trivial
     |dsimp only)
   |_=>exact trivial
  |_=>exact trivial
 |_=>exact trivial
theorem IU (t:tI) (x:Place) (b:Bool) (o:Option String):ah P (receiverAt t x b o):=by
 haveI: ∀t p,IsCalm P (Place.get t p):=fun t p=>⟨Df t p⟩
 haveI: ∀t u x y z,IsCalm P (Builtin.ssaWrapNilChk_ #[t] u #[x,y,z]):=fun t u x y z=>⟨TW t u x y z⟩
 unfold receiverAt
 (repeat' first
  |exact dI _ _
  |exact IsCalm.out
  | (refine aF ?_ (fun _=> ?_))
  | (refine jG (fun _=> ?_) (fun _=> ?_))
  |split
  |exact trivial
  |dsimp only)
theorem TY (t:tI) (v:vL) (p:Array FieldStep) (b:Bool):ah P (receiverVia t v p b):=by
 unfold receiverVia;exact aF (Dh _ _ _) fun _=>IU _ _ _ _
theorem IV: ∀(n:Nat) (t:tI) (v:vL) (s:String),ah P (method n t v s)
 | 0,_,_,_=>trivial
 |n+1,t,v,s=>by
  have ih:=IV n
  haveI: ∀t v s,IsCalm P (method n t v s):=fun t v s=>⟨ih t v s⟩
  haveI: ∀t p,IsCalm P (Place.get t p):=fun t p=>⟨Df t p⟩
  haveI: ∀l t p,IsCalm P (follow l t p):=fun l t p=>⟨Dh l t p⟩
  haveI: ∀t x b o,IsCalm P (receiverAt t x b o):=fun t x b o=>⟨IU t x b o⟩
  clear ih;unfold method
  (repeat' first
  |exact dI _ _
  |exact IsCalm.out
  | (refine aF ?_ (fun _=> ?_))
  | (refine jG (fun _=> ?_) (fun _=> ?_))
  |split
  |exact trivial
  |dsimp only)
theorem IW: ∀(l:List FieldStep) (t:tI) (p:Option vL),ah P (followBlind l t p)
 | [],_,_=>trivial
 |s::rest,t,x=>by
  have ih:=IW rest
  haveI: ∀t p,IsCalm P (followBlind rest t p):=fun t p=>⟨ih t p⟩
  clear ih;unfold followBlind
  (repeat' first
  |exact dI _ _
  |exact IsCalm.out
  | (refine aF ?_ (fun _=> ?_))
  | (refine jG (fun _=> ?_) (fun _=> ?_))
  |split
  |exact trivial
  |dsimp only)
theorem IX: ∀(n:Nat) (t:tI) (v:vL) (s:String),ah P (nilAhead n t v s)
 | 0,_,_,_=>trivial
 |n+1,t,v,s=>by
  have ih:=IX n
  haveI: ∀t v s,IsCalm P (nilAhead n t v s):=fun t v s=>⟨ih t v s⟩
  haveI: ∀l t p,IsCalm P (followBlind l t p):=fun l t p=>⟨IW l t p⟩
  clear ih;unfold nilAhead
  (repeat' first
  |exact dI _ _
  |exact IsCalm.out
  | (refine aF ?_ (fun _=> ?_))
  | (refine jG (fun _=> ?_) (fun _=> ?_))
  |split
  |exact trivial
  |dsimp only)
theorem nC {α:Type} (B:α->Prop) (e:RuntimeError):Calm P B (runtimePanic e:Sem α):=by
 unfold runtimePanic
 (repeat' first
  |exact Ir _ _ _
  |exact IsCalm.out
  | (refine aF ?_ (fun _=> ?_))
  |split
  |dsimp only)
theorem IY (hF:rU P) (r:vL) (s:String) (args:Array vL):Calm P jH (callMethod r s args):=by
 unfold callMethod
 split
 ·refine aF (vS P) fun p=>aF (IV _ _ _ _) fun x=> ?_;exact hF _ _
 ·exact nC _ _
 ·exact trivial
theorem rW (l:Nat):Calm P (fun r:Loop=>codeOk false r.assign=true/\codeOk false r.body=true/\ ∀c,r.pending=some c->codeOk false c=true) (Instr.getLoop l):=by
 unfold Instr.getLoop;refine vT _ (fun o ho=> ?_) (.inl ⟨_,rfl⟩)
 split
 ·exact ho
 ·exact trivial
theorem Ua (l:Nat) (args:Array vL):Calm P jH (Instr.yield l args):=by
 unfold Instr.yield;refine jF (rW l) fun r hr=> ?_;dsimp only;refine jG (fun _=> ?_) (fun _=> ?_)
 ·exact trivial
 ·exact⟨hr.1,hr.2.1⟩
def Di (b:Builtin):Bool:=b== .append||b== .cap||b== .clear||b== .copy||b== .delete||b== .len||b== .max||b== .min||b== .recover
theorem Ub (b:Builtin) (hb:Di b=true) (ts:Array tI) (t:tI) (cs:Array Bool) (args:Array vL):Calm P jH (builtin b ts t cs args):=by
 cases b<;>first | (exact absurd hb (by decide)) | (unfold builtin;exact rV IsCalm.out) |exact trivial
theorem Dj (hF:rU P) (t:Target) (ht:match t with | .builtin b .. =>Di b=true | .coroexit _=>False |_=>True) (args:Array vL):Calm P jH (invoke t args):=by
 unfold invoke
 split
 ·exact nC _ _
 ·exact Ub _ ht _ _ _ _
 ·exact hF _ _
 ·split
  ·exact IY hF _ _ _
  ·exact trivial
 ·split
  ·refine aF (vU P _) fun d=> ?_
   split<;>exact IY hF _ _ _
  ·exact trivial
 ·split
  ·exact aF (TY _ _ _ _) fun _=>hF _ _
  ·exact trivial
 ·exact Ua _ _
 ·exact trivial
 ·exact ht.elim
theorem Uc (f:vL) (args:Array vL):Calm P (fun d:Deferred=>d.good) (Deferred.ofValue f args):=by
 unfold Deferred.ofValue
 split<;>exact trivial
theorem vX (ρ:Operand->vL) (c:Call) (t:tI):Calm P (fun d:Deferred=>match c.callee with | .builtin b=> ∃ts t cs,d.target= .builtin b ts t cs |_=>d.good) (resolve ρ c t):=by
 unfold resolve
 cases hc:c.callee with
 |builtin b=>exact⟨_,_,_,rfl⟩
 |invoke r n=>exact trivial
 |value f=>exact Uc _ _
theorem Ud {d:Bool} {o:Oper} {t:tI} {x:Operand} (hop:o.op= .makeChan t x) (ho:iP d o=true):x= .const (iN qi 0):=by
 by_cases e:x= .const (iN qi 0)
 ·exact e
 ·exfalso;unfold iP at ho;rw[hop] at ho
  split at ho<;>simp_all
theorem IZ (hF:rU P) (ρ:Operand->vL) (hρ: ∀v,ρ (.const v)=v) (o:Oper) {df:Bool} (ho:iP df o=true):Calm P jH (execOp ρ o):=by
 have hoo:=ho;unfold iP at ho;unfold execOp
 cases hop:o.op with
 |ready g=>rw[hop] at ho;cases ho
 |waits g=>rw[hop] at ho;cases ho
 |call c=>
  rw[hop] at ho;refine jF (vX ρ c o.type) fun d hd=> ?_;refine Dj hF _ ?_ _;obtain⟨callee,az,ats⟩:=c
  cases callee with
  |builtin b=>
   obtain⟨ts,t,cs,e⟩:=hd;rw[e];exact ho
  |value f=>
   have hd':d.good:=hd;unfold Deferred.good at hd'
   cases e:d.target<;>simp_all
  |invoke f n=>
   have hd':d.good:=hd;unfold Deferred.good at hd'
   cases e:d.target<;>simp_all
 |go c=>
  rw[hop] at ho;refine jF (vX ρ c o.type) fun d hd=> ?_;obtain⟨callee,az,ats⟩:=c
  cases callee with
  |builtin b=>cases ho
  |value f=>exact hd
  |invoke f n=>exact hd
 |defer c=>
  rw[hop] at ho;refine jF (vX ρ c o.type) fun d hd=> ?_;obtain⟨callee,az,ats⟩:=c
  cases callee with
  |builtin b=>cases ho
  |value f=>exact hd
  |invoke f n=>exact hd
 |move x=>exact trivial
 |assign x=>exact trivial
 |pick c a b=>exact aF (IC P _) fun _=>by split<;>exact trivial
 |nilCheck x=>
  dsimp only
  split
  ·exact nC _ _
  ·exact nC _ _
  ·exact nC _ _
  ·split
   ·exact nC _ _
   ·refine aF (vS P) fun p=>aF (IX _ _ _ _) fun b=> ?_;refine jG (fun _=> ?_) (fun _=> ?_)<;>exact trivial
   ·exact trivial
  ·exact trivial
 |binOp op t x y u=>exact rV (aF (IJ P ..) fun _=>IK P ..)
 |send ch x=>exact(rfl:true=true)
 |recv t ch ok=>
  refine aF (vU P _) fun d=> ?_
  split
  ·exact aF (CX P _) fun _=>(rfl:true=true)
  ·exact trivial
 |select cs b=>
  rw[hop] at ho;exact aF (CW _ _ fun s=>aF (CX P _) fun _=>trivial) fun _=>ho
 |store t a x=>exact vW IsCalm.out
 |makeChan t x=>
  obtain rfl:=Ud hop hoo;refine rV ?_;rw[hρ];exact IsCalm.out
 |mapUpdate t m k x=>exact vW IsCalm.out
 |insert t m k x=>exact vW IsCalm.out
 |entryStore t m k x=>exact vW IsCalm.out
 |_=>exact rV IsCalm.out
end
end Go.Tp
