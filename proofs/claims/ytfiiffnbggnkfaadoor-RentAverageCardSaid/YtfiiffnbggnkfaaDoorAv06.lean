/- A part of the proof of a law; no conditions of its own. -/
import Derived.Test.YtfiiffnbggnkfaaDoorAv05
open Go renaming Addr→aD, FuncId→fI, Program→pQ, TypeId→tI, Value→vL, World→wD
set_option maxRecDepth 100000
open Nat renaming le_refl→nR
open Array renaming getElem?_eq_some_iff→aS
open Array renaming getElem?_eq_getElem→aG
set_option maxHeartbeats 4000000
namespace Go.Tp
structure Rl where
 rel:Nat->Nat->Prop
 ch:Nat->Nat->Prop
 own:Nat->Prop
structure Rl.le (R R':Rl):Prop where
 rel: ∀b b',R.rel b b'->R'.rel b b'
 ch: ∀b b',R.ch b b'->R'.ch b b'
 own: ∀b',R.own b'->R'.own b'
theorem Rl.le.refl (R:Rl):R.le R:=⟨fun _ _ h=>h,fun _ _ h=>h,fun _ h=>h⟩
theorem Rl.le.trans {R R' R'':Rl} (h:R.le R') (h':R'.le R''):R.le R'':=⟨fun _ _ x=>h'.rel _ _ (h.rel _ _ x),fun _ _ x=>h'.ch _ _ (h.ch _ _ x),fun _ x=>h'.own _ (h.own _ x)⟩
def _root_.Go.Value.single:vL->Prop
 | .agg _ | .tuple _ | .bool _=>False
 |_=>True
inductive AR (R:Rl):aD->aD->Prop
 |mk {b b':Nat} (o:Nat) (s:Option Nat):R.rel b b'->AR R ⟨b,o,s⟩ ⟨b',o,s⟩
inductive VR (F:fI->Bool) (R:Rl):vL->vL->Prop
  |bool (b:Bool):VR F R (.bool b) (.bool b)
  |int (k:IntKind) (n:Int):VR F R (.int k n) (.int k n)
  |float (k:FloatKind) (n:Nat):VR F R (.float k n) (.float k n)
  |complex (k:FloatKind) (n m:Nat):VR F R (.complex k n m) (.complex k n m)
  |string (s:ByteArray):VR F R (.string s) (.string s)
  |nilPointer:VR F R (.pointer none) (.pointer none)
  |pointer {a a':aD}:AR R a a'->VR F R (.pointer (some a)) (.pointer (some a'))
  |nilSlice (n c:Nat):VR F R (.slice none n c) (.slice none n c)
  |slice {a a':aD} (n c:Nat):AR R a a'->VR F R (.slice (some a) n c) (.slice (some a') n c)
  |nilMap:VR F R (.map none) (.map none)
  |nilChan:VR F R (.chan none) (.chan none)
  |chan {r r':Nat}:R.ch r r'->VR F R (.chan (some r)) (.chan (some r'))
  |nilFunc:VR F R .nilFunc .nilFunc
  |func (f:fI) {a a' c c':Array vL}:F f=true->a.size=a'.size->(∀(i:Nat) (v v':vL),a[i]? =some v->a'[i]? =some v'->VR F R v v')->
      c.size=c'.size->(∀(i:Nat) (v v':vL),c[i]? =some v->c'[i]? =some v'->VR F R v v')->VR F R (.func (.func f) a c) (.func (.func f) a' c')
  |nilIface:VR F R .nilIface .nilIface
  |agg {c c':Array vL}:c.size=c'.size->(∀(i:Nat) (v v':vL),c[i]? =some v->c'[i]? =some v'->VR F R v v')->VR F R (.agg c) (.agg c')
  |tuple {c c':Array vL}:c.size=c'.size->(∀(i:Nat) (v v':vL),c[i]? =some v->c'[i]? =some v'->VR F R v v')->VR F R (.tuple c) (.tuple c')
  |poison {v':vL}:v'.single->VR F R (.tuple #[]) v'
structure VRs (F:fI->Bool) (R:Rl) (c c':Array vL):Prop where
 size:c.size=c'.size
 get: ∀(i:Nat) (v v':vL),c[i]? =some v->c'[i]? =some v'->VR F R v v'
inductive OR (F:fI->Bool) (R:Rl) (b':Nat):Obj->Obj->Prop
 |cells {c c':Array vL} {t:tI} {z z':Nat×Nat}:VRs F R c c'->(R.own b'->z=z')->(¬R.own b'->z=(0,c.size))->OR F R b' (.cells c t z) (.cells c' t z')
 |number {a a':aD} (l:Bool):AR R a a'->OR F R b' (.number a l) (.number a' l)
structure WR (P:pQ) (F:fI->Bool) (R:Rl) (w u:wD):Prop where
 dom: ∀b b',R.rel b b'->b<w.heap.size/\b'<u.heap.size
 fn: ∀b b1 b2,R.rel b b1->R.rel b b2->b1=b2
 inj: ∀b1 b2 b',R.rel b1 b'->R.rel b2 b'->b1=b2
 objs: ∀b b' o,R.rel b b'->w.heap[b]? =some o-> ∃o',u.heap[b']? =some o'/\OR F R b' o o'
 glob: ∀b b',R.rel b b'->b<P.globals.size\/b'<P.globals.size->b=b'
 tape:w.tape=u.tape
 drawn:w.drawn=u.drawn
 bigW:P.globals.size<=w.heap.size
 bigU:P.globals.size<=u.heap.size
structure Fr (R R':Rl) (u u':wD):Prop where
 size:u.heap.size<=u'.heap.size
 keep: ∀b',b'<u.heap.size-> ¬R.own b'->u'.heap[b']? =u.heap[b']?
 own: ∀b',R'.own b'↔R.own b'\/(u.heap.size<=b'/\b'<u'.heap.size)
 new: ∀b b',R'.rel b b'->R.rel b b'\/u.heap.size<=b'
 same:u'.tape=u.tape/\u'.os=u.os/\u'.output=u.output
 ch: ∀r r',R'.ch r r'->R.ch r r'
theorem Fr.refl (R:Rl) (u:wD):Fr R R u u:=⟨nR _,fun _ _ _=>rfl,fun b'=>⟨.inl,fun h=>h.elim id fun x=>by omega⟩,fun _ _ h=> .inl h,⟨rfl,rfl,rfl⟩,fun _ _ h=>h⟩
theorem Fr.trans {R R' R'':Rl} {u u' u'':wD} (h:Fr R R' u u') (h':Fr R' R'' u' u''):Fr R R'' u u'':=by
 refine⟨Nat.le_trans h.size h'.size,fun b' hb hn=> ?_,fun b'=> ?_,fun b b' hr=> ?_,⟨h'.same.1.trans h.same.1,h'.same.2.1.trans h.same.2.1,h'.same.2.2.trans h.same.2.2⟩,fun r r' hr=>h.ch _ _ (h'.ch _ _ hr)⟩
 ·rw[h'.keep b' (Nat.lt_of_lt_of_le hb h.size) fun ho=>(h.own b').1 ho |>.elim hn (fun x=>by omega),h.keep b' hb hn]
 ·rw[h'.own,h.own];have:=h.size;have:=h'.size;constructor
  ·rintro((x |x) |x)
   ·exact .inl x
   ·exact .inr (by omega)
   ·exact .inr (by omega)
  ·rintro(x |x)
   ·exact .inl (.inl x)
   ·by_cases hb:b'<u'.heap.size
    ·exact .inl (.inr ⟨x.1,hb⟩)
    ·exact .inr ⟨by omega,x.2⟩
 ·rcases h'.new b b' hr with x |x
  ·exact h.new b b' x
  ·exact .inr (Nat.le_trans h.size x)
inductive EvR (R:Rl):Event->Prop
 |cell {b:Nat} {a:aD} (wr:Bool):R.rel b a.block->(wr=true->R.own a.block)->EvR R ⟨.cell a,wr,false⟩
 |obj {b r:Nat}:R.rel b r->EvR R ⟨.obj r,false,false⟩
 |noRoom (x y:Bool):EvR R ⟨.mark .noRoom,x,y⟩
theorem AR.mono {R R':Rl} (h:R.le R') {a a':aD} (x:AR R a a'):AR R' a a':=by cases x with |mk o s hr=>exact .mk o s (h.rel _ _ hr)
theorem VR.mono {F:fI->Bool} {R R':Rl} (h:R.le R') {v v':vL} (x:VR F R v v'):VR F R' v v':=by
 induction x with
 |pointer ha=>exact .pointer (ha.mono h)
 |slice n c ha=>exact .slice n c (ha.mono h)
 |chan hr=>exact .chan (h.ch _ _ hr)
 |func f hf h1 _ h3 _ ih2 ih4=>exact .func f hf h1 ih2 h3 ih4
 |agg h1 _ ih=>exact .agg h1 ih
 |tuple h1 _ ih=>exact .tuple h1 ih
 |poison hs=>exact .poison hs
 |_=>constructor
theorem VRs.mono {F:fI->Bool} {R R':Rl} (h:R.le R') {c c':Array vL} (x:VRs F R c c'):VRs F R' c c':=⟨x.size,fun i v v' a b=>(x.get i v v' a b).mono h⟩
theorem EvR.mono {R R':Rl} (h:R.le R') {e:Event} (x:EvR R e):EvR R' e:=by
 cases x with
 |cell wr hr ho=>exact .cell wr (h.rel _ _ hr) fun x=>h.own _ (ho x)
 |obj hr=>exact .obj (h.rel _ _ hr)
 |noRoom x y=>exact .noRoom x y
def Sim (P:pQ) (F:fI->Bool) {α α':Type} (A:Rl->α->α'->Prop) (R:Rl) (s:Sem α) (s':Sem α'):Prop:=
 ∀R1,R.le R1-> ∀w u,WR P F R1 w u-> ∀es a w1 es1,s.runT P w es=(.ok a w1,es1)-> ∀us,∃R2 a' u1 us1,R1.le R2/\s'.runT P u us=(.ok a' u1,us1)/\WR P F R2 w1 u1/\A R2 a a'/\Fr R1 R2 u u1/\ ∀e∈us1,e∈us\/EvR R2 e
section
variable {P:pQ} {F:fI->Bool} {α β α' β':Type} {R:Rl}
theorem runT_bind (s:Sem α) (f:α->Sem β) (w:wD) (es:Array Event):(s >>= f).runT P w es=match s.runT P w es with | (.ok a w1,es1)=>(f a).runT P w1 es1 | (.halt h w1,es1)=>(.halt h w1,es1):=by
  show (s.bind f).runT P w es=_
  induction s generalizing w es with
  |pure a=>rfl
  |load m a k ih=>
    simp only[Sem.bind,Sem.runT]
    split
    · exact ih _ _ _
    · split
      · exact ih _ _ _
      · rfl
  |store m a v k ih=>
    cases v<;>first
    |rfl
    | (simp only[Sem.bind,Sem.runT]
       split
       · split
         · rfl
         · exact ih _ _
       · split
         · exact ih _ _
         · rfl)
  |new o k ih=>exact ih _ _ _
  |shape r k ih=>exact ih _ _ _
  |freeze a n k ih=>exact ih _ _
  |frozen a k ih=>exact ih _ _ _
  |getObj r k ih=>
    simp only[Sem.bind,Sem.runT]
    split<;>first |rfl |exact ih _ _ _
  |setObj r o k ih=>
    simp only[Sem.bind,Sem.runT]
    split<;>first |rfl |exact ih _ _
  |choose q k ih=>
    simp only[Sem.bind,Sem.runT]
    split<;>exact ih _ _ _
  |sys c k ih=>exact ih _ _ _
  |program k ih=>exact ih _ _ _
  |mark m k ih=>exact ih _ _
  |halt x=>rfl
theorem au {A:Rl->α->α'->Prop} {a:α} {a':α'} (h: ∀R1,R.le R1->A R1 a a'):Sim P F A R (pure a) (pure a'):=by
 intro R1 hR w u hw es x w1 es1 hx us
 cases hx
 exact⟨R1,a',u,us,.refl _,rfl,hw,h _ hR,.refl _ _,fun e he=> .inl he⟩
theorem aj {A:Rl->α->α'->Prop} {B:Rl->β->β'->Prop} {s:Sem α} {s':Sem α'} {f:α->Sem β} {f':α'->Sem β'}
  (h:Sim P F A R s s') (hf: ∀R1,R.le R1-> ∀a a',A R1 a a'->Sim P F B R1 (f a) (f' a')):Sim P F B R (s >>= f) (s' >>= f'):=by
 intro R1 hR w u hw es b w1 es1 hb us;rw[runT_bind] at hb
 cases hr:s.runT P w es with
 |mk r es2=>
  rw[hr] at hb
  cases r with
  |halt x w2=>cases hb
  |ok a w2=>
   obtain⟨R2,a',u1,us1,l1,e1,w1',ha,f1,v1⟩:=h R1 hR w u hw es a w2 es2 hr us;obtain⟨R3,b',u2,us2,l2,e2,w2',hb',f2,v2⟩:=hf R2 (hR.trans l1) a a' ha R2 (.refl _) w2 u1 w1' es2 b w1 es1 hb us1;refine⟨R3,b',u2,us2,l1.trans l2, ?_,w2',hb',f1.trans f2,fun e he=> ?_⟩
   ·rw[runT_bind,e1];exact e2
   ·rcases v2 e he with x |x
    ·exact(v1 e x).imp id (·.mono l2)
    ·exact .inr x
theorem dY {A:Rl->α->α'->Prop} (x:Halt) (s':Sem α'):Sim P F A R (.halt x:Sem α) s':=by
 intro R1 _ w u _ es a w1 es1 h
 cases h
theorem Jf {A B:Rl->α->α'->Prop} {s:Sem α} {s':Sem α'} (h:Sim P F A R s s') (hAB: ∀R1,R.le R1-> ∀a a',A R1 a a'->B R1 a a'):Sim P F B R s s':=by
 intro R1 hR w u hw es a w1 es1 hr us;obtain⟨R2,a',u1,us1,l1,e1,w1',ha,f1,v1⟩:=h R1 hR w u hw es a w1 es1 hr us;exact⟨R2,a',u1,us1,l1,e1,w1',hAB _ (hR.trans l1) _ _ ha,f1,v1⟩
end
section
variable {P:pQ} {F:fI->Bool} {R:Rl}
theorem VRs.hit {c c':Array vL} (h:VRs F R c c') {i:Nat} {v:vL} (hi:c[i]? =some v): ∃v',c'[i]? =some v'/\VR F R v v':=by
 have hlt:=(aS.1 hi).1;have e:c'[i]? =some (c'[i]'(h.size▸hlt)):=aG (h.size▸hlt);exact⟨_,e,h.get i _ _ hi e⟩
theorem VRs.set {c c':Array vL} (h:VRs F R c c') {v v':vL} (hv:VR F R v v') (i:Nat):VRs F R (c.setIfInBounds i v) (c'.setIfInBounds i v'):=by
 refine⟨by simp[h.size],fun k x x' hx hx'=> ?_⟩;rw[Array.getElem?_setIfInBounds] at hx hx';by_cases e:i=k
 ·subst e;rw[<-h.size] at hx';by_cases hlt:i<c.size
  ·simp[hlt] at hx hx';subst hx hx';exact hv
  ·simp[hlt] at hx
 ·simp[e] at hx hx';exact h.get k _ _ hx hx'
theorem VRs.push {c c':Array vL} (h:VRs F R c c') {v v':vL} (hv:VR F R v v'):VRs F R (c.push v) (c'.push v'):=by
 refine⟨by simp[h.size],fun k x x' hx hx'=> ?_⟩;rw[Array.getElem?_push] at hx hx';rw[<-h.size] at hx';by_cases e:k=c.size
 ·simp[e] at hx hx';subst hx hx';exact hv
 ·simp[e] at hx hx';exact h.get k _ _ hx hx'
theorem VRs.nil:VRs F R #[] #[]:=⟨rfl,fun i v v' h=>by simp at h⟩
theorem VRs.one {v v':vL} (h:VR F R v v'):VRs F R #[v] #[v']:=(VRs.nil.push h)
theorem VR.cells {v v':vL} (h:VR F R v v'):VRs F R v.cells v'.cells:=by
 cases h with
 |agg h1 h2=>exact⟨h1,h2⟩
 | @poison v' hs=>cases v'<;>first |exact VRs.one (.poison trivial) |exact hs.elim
 |_=>refine VRs.one ?_;constructor<;>assumption
section
variable {w u:wD}
theorem WR.obj (hw:WR P F R w u) {b b':Nat} (h:R.rel b b'): ∃o o',w.heap[b]? =some o/\u.heap[b']? =some o'/\OR F R b' o o':=by
 have hlt:=(hw.dom _ _ h).1;obtain⟨o',h1,h2⟩:=hw.objs b b' _ h (aG hlt);exact⟨_,o',aG hlt,h1,h2⟩
theorem WR.mono {R1:Rl} (h:WR P F R1 w u):WR P F R1 w u:=h
end
theorem Jg {a a':aD} (h:AR R a a') (m:Mode) (hm:m≠ .atomic):Sim P F (fun R v v'=>VR F R v v') R (load a m) (load a' m):=by
 intro R1 hR w u hw es v w1 es1 hr us
 cases h with
 | @mk b b' o s hb=>
 have hb1:=hR.rel _ _ hb;obtain⟨ob,ob',ho,ho',hor⟩:=hw.obj hb1;simp only[load,Sem.runT] at hr
 cases hor with
 |number l ha=>
  have hc:w.cell? ⟨b,o,s⟩=none:=by simp[World.cell?,ho]
  rw[hc] at hr;simp only[World.farLoad,ho] at hr
  cases hr
 | @cells c c' t z z' hcs hz hz'=>
  have hfar: ∀x,w.farLoad P ⟨b,o,s⟩ x= .error (w.noCell ⟨b,o,s⟩ "load: no such cell"):=fun x=>by simp[World.farLoad,ho]
  cases hc:w.cell? ⟨b,o,s⟩ with
  |none=>rw[hc] at hr;simp only[hfar] at hr;cases hr
  |some v0=>
   rw[hc] at hr
   cases hr
   simp only[World.cell?,ho] at hc
   split at hc
   ·cases hc
   ·rename_i hs;obtain⟨v',hv',hvr⟩:=hcs.hit hc;refine⟨R1,v',u,us.push ⟨.cell ⟨b',o,s⟩,false,m== .atomic⟩,.refl _, ?_,hw,hvr,.refl _ _,fun e he=> ?_⟩
    ·simp only[load,Sem.runT];have:u.cell? ⟨b',o,s⟩=some v':=by simp[World.cell?,ho',hv',hs]
     rw[this]
    ·rcases Array.mem_push.1 he with h |h
     ·exact .inl h
     ·subst h;have:(m==Mode.atomic)=false:=by cases m<;>first |rfl |exact absurd rfl hm
      rw[this];exact .inr (.cell false hb1 fun h=>by cases h)
theorem Jh {h:Array Obj} {b:Nat} {c:Array vL} {t:tI} {z:Nat×Nat} {f:Obj->Obj} (ho:h[b]? =some (.cells c t z)) (n:Nat):(h.modify b f)[n]? =if b=n then some (f (.cells c t z)) else h[n]? :=by
 rw[Array.getElem?_modify]
 split
 ·rename_i e;subst e;rw[ho];rfl
 ·rfl
theorem UJ {a a':aD} {v v':vL} (h:AR R a a') (hv:VR F R v v') (m:Mode) (hm:m≠ .atomic):Sim P F (fun _ _ _=>True) R (store a v m) (store a' v' m):=by
  intro R1 hR w u hw es x w1 es1 hr us;have hv1:=hv.mono hR;have step: ∀(w0:wD) (es0:Array Event) (a0:aD) (v0:vL),(∀c,v0≠ .agg c)->(∀c,v0≠ .tuple c)->(store a0 v0 m).runT P w0 es0=match w0.cell? a0 with
        |some _=>if w0.frozen? a0 then (.halt (.unsupported (.unsafePointer "a write to bytes that a string shares")) w0,es0) else (.ok () (w0.setCell a0 v0),es0.push ⟨.cell a0,true,m== .atomic⟩)
        |none=>match w0.farStore P a0 v0 (m== .atomic) with
          | .ok (w1,touched)=>(.ok () w1,es0++touched.toArray.map (⟨.cell ·, true,m== .atomic⟩))
          | .error h=>(.halt h w0,es0):=by
      intro w0 es0 a0 v0 h1 h2
      cases v0<;>first |rfl |exact absurd rfl (h1 _) |exact absurd rfl (h2 _)
  by_cases hg:(∃c,v= .agg c)\/ ∃c,v= .tuple c
  · rcases hg with ⟨c,rfl⟩ |⟨c,rfl⟩<;>cases hr
  have n1: ∀c,v≠ .agg c:=fun c e=>hg (.inl ⟨c,e⟩);have n2: ∀c,v≠ .tuple c:=fun c e=>hg (.inr ⟨c,e⟩);have n1': ∀c,v'≠ .agg c:=fun c e=>by
    subst e
    cases hv with
    |agg _ _=>exact n1 _ rfl
    |poison _=>exact n2 _ rfl
  have n2': ∀c,v'≠ .tuple c:=fun c e=>by
    subst e
    cases hv with
    |tuple _ _=>exact n2 _ rfl
    |poison _=>exact n2 _ rfl
  rw[step _ _ _ _ n1 n2] at hr
  cases h with
  | @mk b b' o s hb=>
  have hb1:=hR.rel _ _ hb;obtain⟨ob,ob',ho,ho',hor⟩:=hw.obj hb1
  cases hor with
  |number l ha=>
    have hc:w.cell? ⟨b,o,s⟩=none:=by simp[World.cell?,ho]
    rw[hc] at hr;simp only[World.farStore,ho] at hr
    cases hr
  | @cells c c' t z z' hcs hz hz'=>
    have hfar: ∀y,w.farStore P ⟨b,o,s⟩ v y= .error (w.noCell ⟨b,o,s⟩ "store: no such cell"):=fun y=>by simp[World.farStore,ho]
    cases hc:w.cell? ⟨b,o,s⟩ with
    |none=>rw[hc] at hr;simp only[hfar] at hr;cases hr
    |some v0=>
      rw[hc] at hr;simp only at hr
      split at hr
      · cases hr
      rename_i hfz
      cases hr
      simp only[World.cell?,ho] at hc
      split at hc
      · cases hc
      rename_i hs;obtain⟨v0',hv0',_⟩:=hcs.hit hc;have hown:R1.own b':=Classical.byContradiction fun hn=>hfz (by
        have hlt:=(aS.1 hc).1;simp[World.frozen?,ho,hz' hn,hlt])
      have hcell':u.cell? ⟨b',o,s⟩=some v0':=by simp[World.cell?,ho',hv0',hs]
      have hfz':u.frozen? ⟨b',o,s⟩=false:=by
        have:u.frozen? ⟨b',o,s⟩=w.frozen? ⟨b,o,s⟩:=by simp[World.frozen?,ho,ho',hz hown]
        rw[this];simpa using hfz
      have hW: ∀n,(w.setCell ⟨b,o,s⟩ v).heap[n]? =if b=n then some (.cells (c.setIfInBounds o v) t z) else w.heap[n]? :=fun n=>by
        simp only[World.setCell];rw[Jh ho];simp[hs]
      have hU: ∀n,(u.setCell ⟨b',o,s⟩ v').heap[n]? =if b'=n then some (.cells (c'.setIfInBounds o v') t z') else u.heap[n]? :=fun n=>by
        simp only[World.setCell];rw[Jh ho'];simp[hs]
      have sW:(w.setCell ⟨b,o,s⟩ v).heap.size=w.heap.size:=by simp[World.setCell]
      have sU:(u.setCell ⟨b',o,s⟩ v').heap.size=u.heap.size:=by simp[World.setCell]
      refine⟨R1,(),u.setCell ⟨b',o,s⟩ v',us.push ⟨.cell ⟨b',o,s⟩,true,m== .atomic⟩,.refl _, ?_,⟨fun x x' hx=> ?_,hw.fn,hw.inj,fun x x' ox hx hox=> ?_,hw.glob,hw.tape,hw.drawn,by rw[sW];exact hw.bigW,by rw[sU];exact hw.bigU⟩,trivial,⟨by rw[sU];exact nR _,fun x hx hno=> ?_,fun x=> ?_,fun _ _ h=> .inl h,⟨rfl,rfl,rfl⟩,fun _ _ h=>h⟩,fun e he=> ?_⟩
      · rw[step _ _ _ _ n1' n2',hcell']
        simp[hfz']
      · rw[sW,sU];exact hw.dom _ _ hx
      · rw[hW] at hox
        rw[hU];by_cases e:b=x
        · subst e
          obtain rfl:=hw.fn _ _ _ hb1 hx;simp only[if_true,Option.some.injEq] at hox ⊢;subst hox;exact⟨_,rfl,.cells (hcs.set hv1 o) hz fun h=>absurd hown h⟩
        · have e':b'≠x':=fun h=>e (hw.inj _ _ _ hb1 (h▸hx))
          simp only[e,e',if_false] at hox ⊢;exact hw.objs x x' ox hx hox
      · rw[hU,if_neg fun e:b'=x=>hno (e▸hown)]
      · rw[sU]
        exact⟨.inl,fun h=>h.elim id fun y=>by omega⟩
      · rcases Array.mem_push.1 he with h |h
        · exact .inl h
        · subst h
          have:(m==Mode.atomic)=false:=by cases m<;>first |rfl |exact absurd rfl hm
          rw[this];exact .inr (.cell true hb1 fun _=>hown)
def Rl.put (R:Rl) (n n':Nat):Rl:={rel:=fun b b'=>R.rel b b'\/(b=n/\b'=n'),ch:=R.ch,own:=fun b'=>R.own b'\/b'=n'}
theorem Rl.le_put (R:Rl) (n n':Nat):R.le (R.put n n'):=⟨fun _ _ h=> .inl h,fun _ _ h=>h,fun _ h=> .inl h⟩
theorem Ji {w u:wD} {R1:Rl} (hw:WR P F R1 w u) {o o':Obj} (h:OR F (R1.put w.heap.size u.heap.size) u.heap.size o o'):
  WR P F (R1.put w.heap.size u.heap.size) {w with heap:=w.heap.push o} {u with heap:=u.heap.push o'}:=by
 have hle:=R1.le_put w.heap.size u.heap.size;refine⟨fun b b' hb=> ?_,fun b b1 b2 h1 h2=> ?_,fun b1 b2 b' h1 h2=> ?_,fun b b' x hb hx=> ?_,fun b b' hb hg=> ?_,hw.tape,hw.drawn,by simp;have:=hw.bigW;omega,by simp;have:=hw.bigU;omega⟩
 ·simp only[Array.size_push]
  rcases hb with hb |⟨rfl,rfl⟩
  ·have:=hw.dom _ _ hb;omega
  ·omega
 ·rcases h1 with h1 |⟨rfl,rfl⟩<;>rcases h2 with h2 |⟨h2,h3⟩
  ·exact hw.fn _ _ _ h1 h2
  ·have:=hw.dom _ _ h1;omega
  ·have:=hw.dom _ _ h2;omega
  ·exact h3.symm
 ·rcases h1 with h1 |⟨rfl,rfl⟩<;>rcases h2 with h2 |⟨h2,h3⟩
  ·exact hw.inj _ _ _ h1 h2
  ·have:=hw.dom _ _ h1;omega
  ·have:=hw.dom _ _ h2;omega
  ·exact h2.symm
 ·simp only at hx ⊢;rw[Array.getElem?_push] at hx ⊢
  rcases hb with hb |⟨rfl,rfl⟩
  ·have hd:=hw.dom _ _ hb;rw[if_neg (by omega)] at hx ⊢;obtain⟨x',h1,h2⟩:=hw.objs b b' x hb hx;refine⟨x',h1, ?_⟩;have hiff: ∀y,(R1.put w.heap.size u.heap.size).own b'->R1.own b'\/y:=fun _ h=>h.elim .inl fun h=>absurd h (by omega)
   cases h2 with
   |cells hc hz hz'=>exact .cells (hc.mono hle) (fun h=>hz ((hiff False h).elim id False.elim)) (fun h=>hz' fun h'=>h (.inl h'))
   |number l ha=>exact .number l (ha.mono hle)
  ·rw[if_pos rfl] at hx ⊢
   cases hx
   exact⟨o',rfl,h⟩
 ·rcases hb with hb |⟨rfl,rfl⟩
  ·exact hw.glob _ _ hb hg
  ·have:=hw.bigW;have:=hw.bigU;omega
theorem Jj {u:wD} {R1:Rl} (n:Nat) (o':Obj):Fr R1 (R1.put n u.heap.size) u {u with heap:=u.heap.push o'}:=by
 refine⟨by simp,fun b' hb _=> ?_,fun b'=> ?_,fun b b' h=> ?_,⟨rfl,rfl,rfl⟩,fun _ _ h=>h⟩
 ·simp only;rw[Array.getElem?_push,if_neg (by omega)]
 ·simp only[Array.size_push];constructor
  ·rintro(h |rfl)
   ·exact .inl h
   ·exact .inr ⟨nR _,by omega⟩
  ·rintro(h |h)
   ·exact .inl h
   ·exact .inr (by omega)
 ·rcases h with h |⟨_,rfl⟩
  ·exact .inl h
  ·exact .inr (nR _)
theorem UK {c c':Array vL} (h:VRs F R c c') (t:tI):Sim P F (fun R n n'=>R.rel n n') R (newObj (.cells c t)) (newObj (.cells c' t)):=by
 intro R1 hR w u hw es x w1 es1 hr us
 cases hr
 exact⟨R1.put w.heap.size u.heap.size,u.heap.size,{u with heap:=u.heap.push (.cells c' t)},us,R1.le_put _ _,rfl,Ji hw (.cells ((h.mono hR).mono (R1.le_put _ _)) (fun _=>rfl) fun hn=>absurd (.inr rfl) hn),.inr ⟨rfl,rfl⟩,Jj _ _,fun e he=> .inl he⟩
theorem UL {a a':aD} (h:AR R a a') (l:Bool):Sim P F (fun R n n'=>R.rel n n') R (newObj (.number a l)) (newObj (.number a' l)):=by
 intro R1 hR w u hw es x w1 es1 hr us
 cases hr
 exact⟨R1.put w.heap.size u.heap.size,u.heap.size,{u with heap:=u.heap.push (.number a' l)},us,R1.le_put _ _,rfl,Ji hw (.number l ((h.mono hR).mono (R1.le_put _ _))),.inr ⟨rfl,rfl⟩,Jj _ _,fun e he=> .inl he⟩
theorem Jk {r r':Nat} (h:R.rel r r'):Sim P F (fun _ x x'=>x=x') R (shape r) (shape r'):=by
 intro R1 hR w u hw es x w1 es1 hr us
 cases hr
 obtain⟨o,o',ho,ho',hor⟩:=hw.obj (hR.rel _ _ h);refine⟨R1,u.shape? r',u,us,.refl _,rfl,hw, ?_,.refl _ _,fun e he=> .inl he⟩;unfold World.shape?;rw[ho,ho']
 cases hor with
 |cells hc _ _=>simp[hc.size]
 |number l _=>rfl
theorem Jl (q:Question):Sim P F (fun _ x x'=>x=x') R (choose q) (choose q):=by
 intro R1 hR w u hw es x w1 es1 hr us;simp only[choose,Sem.runT] at hr ⊢
 split at hr
 ·rename_i hf
  cases hr
  exact⟨R1,0,u,us,.refl _,by simp[hf],hw,rfl,.refl _ _,fun e he=> .inl he⟩
 ·rename_i hf
  cases hr
  refine⟨R1,q.cut (u.tape u.drawn q),{u with drawn:=u.drawn+1},us,.refl _,by simp[hf],⟨hw.dom,hw.fn,hw.inj,hw.objs,hw.glob,hw.tape,by simp[hw.drawn],hw.bigW,hw.bigU⟩,by rw[hw.tape,hw.drawn],⟨nR _,fun _ _ _=>rfl,fun b'=>⟨.inl,fun h=>h.elim id fun x=>by simp only at x;omega⟩,fun _ _ h=> .inl h,⟨rfl,rfl,rfl⟩,fun _ _ h=>h⟩,fun e he=> .inl he⟩
theorem kK:Sim P F (fun _ x x'=>x=P/\x'=P) R program program:=by
 intro R1 hR w u hw es x w1 es1 hr us
 cases hr
 exact⟨R1,P,u,us,.refl _,rfl,hw,⟨rfl,rfl⟩,.refl _ _,fun e he=> .inl he⟩
theorem Jm {r r':Nat} (h:R.rel r r'):Sim P F (fun _ x x'=>x=none/\x'=none) R (viewAt r) (viewAt r'):=by
 intro R1 hR w u hw es x w1 es1 hr us;obtain⟨o,o',ho,ho',hor⟩:=hw.obj (hR.rel _ _ h)
 cases hor with
 | @cells c c' t z z' hc _ _=>
  have e: ∀(w:wD) (es:Array Event) (r:Nat) c t z,w.heap[r]? =some (.cells c t z)->(viewAt r).runT P w es=(.ok none w,es):=fun w es r c t z h=>by
   simp only[viewAt,runT_bind,shape,Sem.runT,World.shape?,h];rfl
  rw[e _ _ _ _ _ _ ho] at hr
  cases hr
  exact⟨R1,none,u,us,.refl _,e _ _ _ _ _ _ ho',hw,⟨rfl,rfl⟩,.refl _ _,fun e he=> .inl he⟩
 | @number a a' l ha=>
  have e: ∀(w:wD) (es:Array Event) (r:Nat) a l,w.heap[r]? =some (.number a l)->(viewAt r).runT P w es=(.ok none w,es.push ⟨.obj r,false,false⟩):=fun w es r a l h=>by
   simp only[viewAt,runT_bind,shape,Sem.runT,World.shape?,h,getObj];rw[if_neg (by simp),runT_bind];simp only[Sem.runT,h];rfl
  rw[e _ _ _ _ _ ho] at hr
  cases hr
  refine⟨R1,none,u,_,.refl _,e _ _ _ _ _ ho',hw,⟨rfl,rfl⟩,.refl _ _,fun e he=> ?_⟩
  rcases Array.mem_push.1 he with h2 |h2
  ·exact .inl h2
  ·subst h2;exact .inr (.obj (hR.rel _ _ h))
inductive Dt (R:Rl):Option (aD×Bool)->Option (aD×Bool)->Prop
 |none:Dt R none none
 |some {a a':aD} (l:Bool):AR R a a'->Dt R (some (a,l)) (some (a',l))
theorem UM {r r':Nat} (h:R.rel r r'):Sim P F (fun R x x'=>Dt R x x') R (numberAt r) (numberAt r'):=by
 intro R1 hR w u hw es x w1 es1 hr us;obtain⟨o,o',ho,ho',hor⟩:=hw.obj (hR.rel _ _ h)
 cases hor with
 | @cells c c' t z z' hc _ _=>
  have e: ∀(w:wD) (es:Array Event) (r:Nat) c t z,w.heap[r]? =some (.cells c t z)->(numberAt r).runT P w es=(.ok none w,es):=fun w es r c t z h=>by
   simp only[numberAt,runT_bind,shape,Sem.runT,World.shape?,h];rfl
  rw[e _ _ _ _ _ _ ho] at hr
  cases hr
  exact⟨R1,none,u,us,.refl _,e _ _ _ _ _ _ ho',hw,.none,.refl _ _,fun e he=> .inl he⟩
 | @number a a' l ha=>
  have e: ∀(w:wD) (es:Array Event) (r:Nat) a l,w.heap[r]? =some (.number a l)->(numberAt r).runT P w es=(.ok (some (a,l)) w,es.push ⟨.obj r,false,false⟩):=fun w es r a l h=>by
   simp only[numberAt,runT_bind,shape,Sem.runT,World.shape?,h,getObj];rw[if_neg (by simp),runT_bind];simp only[Sem.runT,h];rfl
  rw[e _ _ _ _ _ ho] at hr
  cases hr
  refine⟨R1,some (a',l),u,_,.refl _,e _ _ _ _ _ ho',hw,.some l ha,.refl _ _,fun e he=> ?_⟩
  rcases Array.mem_push.1 he with h2 |h2
  ·exact .inl h2
  ·subst h2;exact .inr (.obj (hR.rel _ _ h))
end
def iR (P:pQ) {α:Type} (s:Sem α):Prop:= ∀w es a w1 es1,s.runT P w es≠(.ok a w1,es1)
def Af (P:pQ) (F:fI->Bool) (t:tI):Prop:= ∀i z,P.info? t=some i->i.zero=some z-> ∀R,VR F R z z
section
variable {P:pQ} {F:fI->Bool} {R:Rl} {α β α' β':Type}
theorem aJ {A:Rl->α->α'->Prop} {s:Sem α} (h:iR P s) (s':Sem α'):Sim P F A R s s':=fun _ _ w _ _ es a w1 es1 hr _=>absurd hr (h w es a w1 es1)
theorem aI (x:Halt):iR P (.halt x:Sem α):=fun w es a w1 es1 h=>by cases h
theorem Ag {s:Sem β} {f:β->Sem α} (h: ∀b,iR P (f b)):iR P (s >>= f):=fun w es a w1 es1 hr=>by
 rw[runT_bind] at hr
 split at hr
 ·exact h _ _ _ _ _ _ hr
 ·cases hr
theorem Ah (e:RuntimeError):iR P (runtimePanic e:Sem α):=by
 unfold runtimePanic;refine Ag fun p=> ?_
 (repeat' first
  |exact aI _
  | (refine Ag fun _=> ?_)
  |split
  |dsimp only)
theorem Jo (k:IntKind) (x y:Int) (c:BoundsCode):iR P (boundsPanic k x y c:Sem α):=by
 unfold boundsPanic
 (repeat' first
  |exact aI _
  |exact Ah _
  | (refine Ag fun _=> ?_)
  |split
  |dsimp only)
abbrev Same (P:pQ) (F:fI->Bool) (R:Rl) (s:Sem α):Prop:=Sim P F (fun _ a a'=>a=a') R s s
theorem Du (t:tI):Sim P F (fun _ a a'=>a=a'/\P.info? t=some a) R (typeInfo t) (typeInfo t):=by
 unfold typeInfo;refine aj kK fun R1 _ p p' hp=> ?_;rw[hp.1,hp.2]
 cases h:P.info? t with
 |none=>exact dY _ _
 |some i=>exact au fun _ _=>⟨rfl,rfl⟩
theorem kL (t:tI):Sim P F (fun _ a a'=>a=a'/\P.underlying t=some a) R (underlying t) (underlying t):=by
 unfold underlying;refine aj kK fun R1 _ p p' hp=> ?_;rw[hp.1,hp.2]
 cases h:P.underlying t with
 |none=>exact dY _ _
 |some i=>exact au fun _ _=>⟨rfl,rfl⟩
theorem Jp {t:tI} (hz:Af P F t):Sim P F (fun R v v'=>VR F R v v'/\v=v') R (zeroValue t) (zeroValue t):=by
 unfold zeroValue;refine aj (Du t) fun R1 _ i i' hi=> ?_;obtain⟨rfl,hi⟩:=hi
 cases h:i.zero with
 |none=>exact dY _ _
 |some z=>exact au fun R2 _=>⟨hz i z hi h R2,rfl⟩
theorem nI (t:tI):Same P F R (sizeOf t):=by
 unfold sizeOf;refine aj (Du t) fun R1 _ i i' hi=> ?_;obtain⟨rfl,_⟩:=hi;exact au fun _ _=>rfl
theorem Jq (t:tI):Same P F R (isAgg t):=by
 unfold isAgg;refine aj (kL t) fun R1 _ i i' hi=> ?_;obtain⟨rfl,_⟩:=hi
 split<;>exact au fun _ _=>rfl
theorem AR.add {a a':aD} (h:AR R a a') (n:Nat):AR R (a.add n) (a'.add n):=by
 cases h with
 | @mk b b' o s hb=>
  unfold Addr.add
  split<;>exact .mk _ _ hb
theorem Jr {a a':aD} (h:AR R a a'): ∀(n i:Nat) (R':Rl),R.le R'-> ∀{c c':Array vL},VRs F R' c c'->Sim P F (fun R v v'=>VRs F R v v') R' (loadCellsFrom a i n c) (loadCellsFrom a' i n c')
 | 0,_,R',_,_,_,hc=>au fun _ hl=>hc.mono hl
 |n+1,i,R',hR,c,c',hc=>by
  unfold loadCellsFrom;refine aj (Jg ((h.mono hR).add i) .plain (by decide)) fun R1 hl v v' hv=> ?_;exact Jr h n (i+1) R1 (hR.trans hl) ((hc.mono hl).push hv)
theorem UN {a a':aD} (h:AR R a a') (n:Nat):Sim P F (fun R v v'=>VRs F R v v') R (loadCells a n) (loadCells a' n):=
 Jr h n 0 R (.refl _) .nil
inductive VRl (F:fI->Bool) (R:Rl):List vL->List vL->Prop
 |nil:VRl F R [] []
 |cons {v v':vL} {l l':List vL}:VR F R v v'->VRl F R l l'->VRl F R (v::l) (v'::l')
theorem VRl.mono {R':Rl} (h:R.le R') {l l':List vL} (x:VRl F R l l'):VRl F R' l l':=by
 induction x with
 |nil=>exact .nil
 |cons hv _ ih=>exact .cons (hv.mono h) ih
theorem VRl.of: ∀{l l':List vL},l.length=l'.length->(∀(i:Nat) (v v':vL),l[i]? =some v->l'[i]? =some v'->VR F R v v')->VRl F R l l'
 | [],[],_,_=> .nil
 | [],_::_,h,_=>by cases h
 |_::_,[],h,_=>by cases h
 |v::l,v'::l',h,hg=> .cons (hg 0 _ _ rfl rfl) (VRl.of (by simpa using h) fun i x x' h1 h2=>hg (i+1) x x' (by simpa using h1) (by simpa using h2))
theorem VRs.toList {c c':Array vL} (h:VRs F R c c'):VRl F R c.toList c'.toList:=
 VRl.of (by simpa using h.size) fun i v v' h1 h2=>h.get i v v' (by simpa using h1) (by simpa using h2)
theorem Js {a a':aD} (h:AR R a a'): ∀(l l':List vL) (i:Nat) (R':Rl),R.le R'->VRl F R' l l'->Sim P F (fun _ _ _=>True) R' (storeCells a l i) (storeCells a' l' i)
 |_,_,_,_,_,.nil=>au fun _ _=>trivial
 |_,_,i,R',hR,.cons hv hl=>by
  unfold storeCells;refine aj (UJ ((h.mono hR).add i) hv .plain (by decide)) fun R1 hl1 _ _ _=> ?_;exact Js h _ _ (i+1) R1 (hR.trans hl1) (hl.mono hl1)
theorem Ai {v v':vL} (h:VR F R v v'):Sim P F (fun R x x'=>AR R x x') R (Instr.sureAddr v) (Instr.sureAddr v'):=by
 cases h with
 |pointer ha=>exact au fun _ hl=>ha.mono hl
 |_=>exact dY _ _
theorem UO {a a':aD} (h:AR R a a'):Sim P F (fun _ _ _=>True) R (noView a) (noView a'):=by
 cases h with
 | @mk b b' o s hb=>
 unfold noView;refine aj (Jm hb) fun R1 _ x x' hx=> ?_;rw[hx.1,hx.2];exact au fun _ _=>trivial
theorem pY {a a':aD} (h:AR R a a'):Sim P F (fun _ x x'=>x=x') R (byteOf a) (byteOf a'):=by
 have ha:=h
 cases h with
 | @mk b b' o s hb=>
 unfold byteOf
 cases s with
 |some n=>exact au fun _ _=>rfl
 |none=>
  dsimp only;refine aj kK fun R1 h1 p p' hp=> ?_;rw[hp.1,hp.2];refine aj (UO (ha.mono h1)) fun R2 h2 _ _ _=> ?_;refine aj (Jk ((h1.trans h2).rel _ _ hb)) fun R3 h3 x x' hx=> ?_;obtain rfl:=hx
  cases x with
  |none=>exact dY _ _
  |some y=>
   obtain⟨e,m⟩:=y;dsimp only
   split
   ·exact au fun _ _=>rfl
   ·split
    ·exact au fun _ _=>rfl
    ·exact dY _ _
theorem UQ {a a':aD} (h:AR R a a') (n m:Nat):Sim P F (fun R x x'=>AR R x x') R (partAt a n m) (partAt a' n m):=by
 have ha:=h
 cases h with
 | @mk b b' o s hb=>
 unfold partAt;refine aj (pY ha) fun R1 h1 x x' hx=> ?_;obtain rfl:=hx;refine aj (pY (.mk (o+n) none (h1.rel _ _ hb))) fun R2 h2 y y' hy=> ?_;obtain rfl:=hy;refine au fun R3 h3=> ?_;have:=(h1.trans (h2.trans h3)).rel _ _ hb
 split<;>exact .mk _ _ this
theorem UR {a a':aD} (h:AR R a a') (f:Field):Sim P F (fun R x x'=>AR R x x') R (fieldPlace a f) (fieldPlace a' f):=by
 unfold fieldPlace;refine aj (nI f.type) fun R1 h1 n n' hn=> ?_;obtain rfl:=hn
 split
 ·exact UQ (h.mono h1) _ _
 ·exact au fun R2 h2=>((h.mono h1).mono h2).add _
theorem UU {v v':vL} (h:VR F R v v') (t:tI) (i:Nat):Sim P F (fun R v v'=>VR F R v v') R (Instr.fieldAt t v i) (Instr.fieldAt t v' i):=by
 unfold Instr.fieldAt;refine aj (kL t) fun R1 h1 d d' hd=> ?_;obtain⟨rfl,_⟩:=hd
 split
 ·split
  ·refine aj (Ai (h.mono h1)) fun R2 h2 a a' ha=> ?_;refine aj (UR ha _) fun R3 h3 x x' hx=> ?_;exact au fun _ hl=> .pointer (hx.mono hl)
  ·exact dY _ _
 ·exact dY _ _
theorem Jt {a a':aD} (h:AR R a a') (t:tI):Sim P F (fun R v v'=>VR F R v v') R (loadVar t a) (loadVar t a'):=by
 unfold loadVar;refine aj (Jq t) fun R1 h1 b b' hb=> ?_;obtain rfl:=hb
 split
 ·refine aj (nI t) fun R2 h2 n n' hn=> ?_;obtain rfl:=hn;refine aj (UN (h.mono (h1.trans h2)) n) fun R3 h3 c c' hc=> ?_;exact au fun R4 h4=> .agg (hc.mono h4).size (hc.mono h4).get
 ·exact Jg (h.mono h1) .plain (by decide)
theorem UW {a a':aD} (h:AR R a a') {v v':vL} (hv:VR F R v v') (t:tI):Sim P F (fun _ _ _=>True) R (storeVar t a v) (storeVar t a' v'):=by
 unfold storeVar;refine aj (nI t) fun R1 h1 n n' hn=> ?_;obtain rfl:=hn;rw[<-hv.cells.size]
 split
 ·exact dY _ _
 ·exact Js (h.mono h1) _ _ 0 R1 (.refl _) (hv.cells.mono h1).toList
theorem UY {c c':Array vL} (h:VRs F R c c') (t:tI):Sim P F (fun R a a'=>AR R a a') R (newRow t c) (newRow t c'):=by
 unfold newRow;refine aj (UK h t) fun R1 h1 n n' hn=> ?_;exact au fun R2 h2=> .mk 0 none (h2.rel _ _ hn)
theorem Ju {v v':vL} (h:VR F R v v') (t:tI):Sim P F (fun R a a'=>AR R a a') R (newVar t v) (newVar t v'):=UY h.cells t
theorem Jv {v v':vL} (h:VR F R v v'):Sim P F (fun _ x x'=>x=x'/\v= .int x.1 x.2/\v'= .int x.1 x.2) R (asIntOf v) (asIntOf v'):=by
 cases h with
 |int k n=>exact au fun _ _=>⟨rfl,rfl,rfl⟩
 |_=>exact dY _ _
theorem Jw {v v':vL} (h:VR F R v v'):Sim P F (fun _ x x'=>x=x') R (asInt v) (asInt v'):=by
 unfold asInt;refine aj (Jv h) fun R1 _ x x' hx=> ?_;rw[hx.1];exact au fun _ _=>rfl
theorem Jy {v v':vL} (h:VR F R v v'):Sim P F (fun _ x x'=>x=x') R (asBool v) (asBool v'):=by
 cases h with
 |bool b=>exact au fun _ _=>rfl
 |_=>exact dY _ _
theorem UZ {v v':vL} (h:VR F R v v'):Sim P F (fun R x x'=>AR R x x') R (asAddr v) (asAddr v'):=by
 cases h with
 |pointer ha=>exact au fun _ hl=>ha.mono hl
 |nilPointer=>
  show Sim P F _ R (runtimePanic .nilDeref:Sem aD) (runtimePanic .nilDeref:Sem aD)
  exact aJ (Ah _) _
 |_=>exact dY _ _
theorem Va {v v':vL} (h:VR F R v v') (t:tI):Sim P F (fun R v v'=>VR F R v v') R (Instr.loadAt t v) (Instr.loadAt t v'):=
 aj (Ai h) fun _ _ _ _ ha=>Jt ha t
theorem Vb {v v' x x':vL} (h:VR F R v v') (hx:VR F R x x') (t:tI):Sim P F (fun _ _ _=>True) R (Instr.storeAt t v x) (Instr.storeAt t v' x'):=
 aj (Ai h) fun _ hl _ _ ha=>UW ha (hx.mono hl) t
theorem Vd {v v':vL} (h:VR F R v v') (t:tI):Sim P F (fun R v v'=>VR F R v v') R (Instr.box t v) (Instr.box t v'):=
 aj (Ju h t) fun _ _ _ _ ha=>au fun _ hl=> .pointer (ha.mono hl)
theorem Ve {t:tI} (hz:Af P F t):Sim P F (fun R v v'=>VR F R v v') R (Instr.alloc t true (.tuple #[])) (Instr.alloc t true (.tuple #[])):=
 aj (Jp hz) fun _ _ _ _ hv=>aj (Ju hv.1 t) fun _ _ _ _ ha=>au fun _ hl=> .pointer (ha.mono hl)
theorem Vf {v v':vL} (h:VR F R v v') (i:Nat):Sim P F (fun R v v'=>VR F R v v') R (Instr.extract v i) (Instr.extract v' i):=by
 cases h with
 | @tuple c c' h1 h2=>
  unfold Instr.extract;dsimp only
  cases e:c[i]? with
  |none=>exact dY _ _
  |some x=>
   obtain⟨x',e',hx⟩:=VRs.hit ⟨h1,h2⟩ e;rw[e'];exact au fun _ hl=>hx.mono hl
 |_=>exact dY _ _
theorem Vg (f:fI) (hf:F f=true) {a a' c c':Array vL} (ha:VRs F R a a') (hc:VRs F R c c'):Sim P F (fun R v v'=>VR F R v v') R (Instr.makeFunc (.func f) a c) (Instr.makeFunc (.func f) a' c'):=
 au fun _ hl=> .func f hf (ha.mono hl).size (ha.mono hl).get (hc.mono hl).size (hc.mono hl).get
theorem Vh {v v' x x':vL} (h:VR F R v v') (hx:VR F R x x') (t:tI):Sim P F (fun R v v'=>VR F R v v') R (Instr.indexAt t v x) (Instr.indexAt t v' x'):=by
  unfold Instr.indexAt;refine aj (Jv hx) fun R1 h1 ki ki' hk=> ?_;obtain⟨rfl,_,_⟩:=hk;obtain⟨k,i⟩:=ki;refine aj (kL t) fun R2 h2 d d' hd=> ?_;obtain⟨rfl,_⟩:=hd;have tail: ∀(R3:Rl),R2.le R3-> ∀(o o':Option aD) (len:Nat) (elem:tI),(o=none/\o'=none\/ ∃a a',o=some a/\o'=some a'/\AR R3 a a')->
      Sim P F (fun R v v'=>VR F R v v') R3
        (do
          let tiny:=len<=1&&(match <-underlying t with | .array .. =>true |_=>false)
          match o with
          |some a=>
            if 0<=i/\i<len then pure (.pointer (some (a.add (i.toNat*(<-sizeOf elem)))))
            else if tiny then unsupported (.noEntry "op/indexAddr.an index out of range at an array of length 0 or 1 (ledger 616)")
            else boundsPanic k i len .index
          |none=>boundsPanic k i 0 .index)
        (do
          let tiny:=len<=1&&(match <-underlying t with | .array .. =>true |_=>false)
          match o' with
          |some a=>
            if 0<=i/\i<len then pure (.pointer (some (a.add (i.toNat*(<-sizeOf elem)))))
            else if tiny then unsupported (.noEntry "op/indexAddr.an index out of range at an array of length 0 or 1 (ledger 616)")
            else boundsPanic k i len .index
          |none=>boundsPanic k i 0 .index):=by
    intro R3 h3 o o' len elem ho;refine aj (kL t) fun R4 h4 d2 d2' hd2=> ?_;obtain⟨rfl,_⟩:=hd2
    rcases ho with ⟨rfl,rfl⟩ |⟨a,a',rfl,rfl,ha⟩
    · exact aJ (Jo _ _ _ _) _
    · dsimp only
      by_cases hin:0<=i/\i<(len:Int)
      · rw[if_pos hin,if_pos hin]
        refine aj (nI elem) fun R5 h5 n n' hn=> ?_;obtain rfl:=hn;exact au fun _ hl=> .pointer ((((ha.mono h4).mono h5).mono hl).add _)
      · rw[if_neg hin]
        refine aJ ?_ _
        (repeat' split)<;>first |exact aI _ |exact Jo _ _ _ _
  have h':=(h.mono h1).mono h2
  cases d with
  |array len elem=>
    refine aj (Ai h') fun R3 h3 a a' ha=> ?_;exact tail R3 h3 (some a) (some a') len elem (.inr ⟨a,a',rfl,rfl,ha⟩)
  |slice elem=>
    cases h' with
    |nilSlice n c=>exact tail R2 (.refl _) none none n elem (.inl ⟨rfl,rfl⟩)
    | @slice a a' n c ha=>exact tail R2 (.refl _) (some a) (some a') n elem (.inr ⟨a,a',rfl,rfl,ha⟩)
    |_=>exact aJ (aI _) _
  |_=>exact aJ (aI _) _
end
section
variable {P:pQ} {F:fI->Bool} {R:Rl}
inductive PRl (F:fI->Bool) (R:Rl):List (Nat×vL)->List (Nat×vL)->Prop
 |nil:PRl F R [] []
 |cons (i:Nat) {v v':vL} {l l':List (Nat×vL)}:VR F R v v'->PRl F R l l'->PRl F R ((i,v)::l) ((i,v')::l')
theorem PRl.mono {R':Rl} (h:R.le R') {l l':List (Nat×vL)} (x:PRl F R l l'):PRl F R' l l':=by
 induction x with
 |nil=>exact .nil
 |cons i hv _ ih=>exact .cons i (hv.mono h) ih
theorem Vj {l l':List vL} (hl:VRl F R l l') (off:Nat): ∀(n:Nat) {c c':Array vL},VRs F R c c'->
  VRs F R ((l.zipIdx n).foldl (fun cs x=>cs.setIfInBounds (off+x.2) x.1) c) ((l'.zipIdx n).foldl (fun cs x=>cs.setIfInBounds (off+x.2) x.1) c'):=by
 induction hl with
 |nil=>exact fun n c c' h=>h
 |cons hv _ ih=>
  intro n c c' h;simp only[List.zipIdx_cons,List.foldl_cons];exact ih (n+1) (h.set hv _)
theorem Vk {v v':vL} (hv:VR F R v v') (off:Nat) {c c':Array vL} (h:VRs F R c c'):
  VRs F R (v.cells.zipIdx.foldl (fun cs (c,j)=>cs.setIfInBounds (off+j) c) c) (v'.cells.zipIdx.foldl (fun cs (c,j)=>cs.setIfInBounds (off+j) c) c'):=by
 have:=Vj hv.cells.toList off 0 h;rw[<-Array.foldl_toList,<-Array.foldl_toList,Array.toList_zipIdx,Array.toList_zipIdx];exact this
theorem Jz (place:Nat->Option (Nat×Nat)) {l l':List (Nat×vL)} (hl:PRl F R l l'): ∀{c c':Array vL},VRs F R c c'->
  (Instr.fill place c l=none)\/ ∃d d',Instr.fill place c l=some d/\Instr.fill place c' l'=some d'/\VRs F R d d':=by
 induction hl with
 |nil=>exact fun h=> .inr ⟨_,_,rfl,rfl,h⟩
 |cons i hv _ ih=>
  intro c c' h;unfold Instr.fill
  cases place i with
  |none=>exact .inl rfl
  |some x=>
   obtain⟨off,size⟩:=x;dsimp only;rw[<-hv.cells.size,<-h.size]
   split
   ·exact .inl rfl
   ·exact ih (Vk hv off h)
theorem Vl (l:List Field):Sim P F (fun _ x x'=>x=x') R (l.mapM fun f=>do pure (f.offset,<-sizeOf f.type)) (l.mapM fun f=>do pure (f.offset,<-sizeOf f.type)):=by
 induction l generalizing R with
 |nil=>exact au fun _ _=>rfl
 |cons f l ih=>
  rw[List.mapM_cons];refine aj (A:=fun _ x x'=>x=x') ?_ fun R1 h1 x x' hx=> ?_
  ·refine aj (nI f.type) fun R1 h1 n n' hn=> ?_;obtain rfl:=hn;exact au fun _ _=>rfl
  ·obtain rfl:=hx;refine aj ih fun R2 h2 y y' hy=> ?_;obtain rfl:=hy;exact au fun _ _=>rfl
theorem Vm {t:tI} (hz:Af P F t) {a a':Array (Nat×vL)} (ha:PRl F R a.toList a'.toList):Sim P F (fun R v v'=>VR F R v v') R (Instr.build t a) (Instr.build t a'):=by
 unfold Instr.build;refine aj (Jp hz) fun R1 h1 z z' hzz=> ?_;obtain⟨hzv,rfl⟩:=hzz;refine aj (kL t) fun R2 h2 d d' hd=> ?_;obtain⟨rfl,_⟩:=hd
 cases d with
 |struct fields=>
  dsimp only;refine aj (A:=fun _ x x'=>x=x') ?_ fun R3 h3 pl pl' hpl=> ?_
  ·rw[Array.mapM_eq_mapM_toList];refine aj (Vl fields.toList) fun R3 h3 x x' hx=> ?_;obtain rfl:=hx;exact au fun _ _=>rfl
  ·obtain rfl:=hpl
   rcases Jz (fun x=>pl[x]?) (((ha.mono h1).mono h2).mono h3) (((hzv.mono h2).mono h3).cells) with e |⟨d,d',e,e',hdd⟩
   ·simp only[e];exact aJ (aI _) _
   ·simp only[e,e'];exact au fun _ hl=> .agg (hdd.mono hl).size (hdd.mono hl).get
 |array n elem=>
  dsimp only;refine aj (nI elem) fun R3 h3 m m' hm=> ?_;obtain rfl:=hm
  rcases Jz (fun i=>some (i*m,m)) (((ha.mono h1).mono h2).mono h3) (((hzv.mono h2).mono h3).cells) with e |⟨d,d',e,e',hdd⟩
  ·simp only[e];exact aJ (aI _) _
  ·simp only[e,e'];exact au fun _ hl=> .agg (hdd.mono hl).size (hdd.mono hl).get
 |_=>exact aJ (aI _) _
theorem Vo {t:tI} (ht:(∃e,P.underlying t=some (.slice e))\/(∃n e,P.underlying t=some (.array n e))\/P.underlying t=some .string) (ts:Array tI) (h0:ts[0]? =some t) (u:tI)
  {v v':vL} (h:VR F R v v'):Sim P F (fun R v v'=>VR F R v v') R (Builtin.len_ ts u #[v]) (Builtin.len_ ts u #[v']):=by
 unfold Builtin.len_;simp only[h0,List.getElem?_toArray,List.getElem?_cons_zero];refine aj (kL t) fun R1 h1 d d' hd=> ?_;obtain⟨rfl,hd⟩:=hd
 rcases ht with ⟨e,ht⟩ |⟨n,e,ht⟩ |ht
 ·rw[ht] at hd
  cases hd
  cases h with
  |nilSlice n c=>exact au fun _ _=> .int _ _
  |slice n c _=>exact au fun _ _=> .int _ _
  |_=>exact aJ (aI _) _
 ·rw[ht] at hd
  cases hd
  exact au fun _ _=> .int _ _
 ·rw[ht] at hd
  cases hd
  cases h with
  |string s=>exact au fun _ _=> .int _ _
  |_=>exact aJ (aI _) _
theorem qg (o:BinOp) (x y:ByteArray):Sim P F (fun R v v'=>VR F R v v') R (Op.stringOp o x y) (Op.stringOp o x y):=by
 unfold Op.stringOp;dsimp only
 split<;>first
  |exact au fun _ _=> .bool _
  |exact dY _ _
  | (split<;>first |exact dY _ _ |exact au fun _ _=> .string _)
theorem Vp {v v' x x':vL} (h:VR F R v v') (hx:VR F R x x'):Sim P F (fun R v v'=>VR F R v v') R (Builtin.min2 v x) (Builtin.min2 v' x'):=by
 cases h with
 |int k n=>
  cases hx with
  |int k' m=>exact au fun _ _=> .int _ _
  |_=>exact aJ (aI _) _
 |float k n=>
  cases hx with
  |float k' m=>
   unfold Builtin.min2;dsimp only
   split
   ·refine aj (Jl _) fun R1 _ y y' hy=> ?_;obtain rfl:=hy;exact au fun _ _=> .float _ _
   ·exact au fun _ _=> .float _ _
   ·exact au fun _ _=> .float _ _
   ·exact au fun _ _=> .float _ _
  |_=>exact aJ (aI _) _
 |string s=>
  cases hx with
  |string s'=>
   unfold Builtin.min2;dsimp only;refine aj (qg _ _ _) fun R1 _ y y' hy=> ?_;refine aj (Jy hy) fun R2 _ b b' hb=> ?_;obtain rfl:=hb;exact au fun _ _=> .string _
  |_=>exact aJ (aI _) _
 |pointer _=>exact aJ (aI _) _
 |_=>cases hx<;>exact aJ (aI _) _
end
section
variable {P:pQ} {F:fI->Bool} {R:Rl}
theorem JA (o:BinOp) (k:IntKind) (x y:Int):Sim P F (fun R v v'=>VR F R v v') R (Op.intArith o k x y) (Op.intArith o k x y):=by
 unfold Op.intArith
 split<;>first |exact au fun _ _=> .int _ _ |exact dY _ _
theorem Dv (o:BinOp) (x y:Int):Sim P F (fun R v v'=>VR F R v v') R (Op.intCmp o x y) (Op.intCmp o x y):=by
 unfold Op.intCmp
 split<;>first |exact au fun _ _=> .bool _ |exact dY _ _
theorem Aj {c c':Array vL} (h:VRs F R c c') (t:tI) (o:Nat):Sim P F (fun R v v'=>VR F R v v') R (part t c o) (part t c' o):=by
 unfold part;refine aj (Jq t) fun R1 h1 b b' hb=> ?_;obtain rfl:=hb
 split
 ·refine aj (nI t) fun R2 h2 n n' hn=> ?_;obtain rfl:=hn;refine au fun R3 h3=> ?_;have hm:=((h.mono h1).mono h2).mono h3;have hx:VRs F R3 (c.extract o (o+n)) (c'.extract o (o+n)):=by
   refine⟨by simp[h.size],fun i v v' hv hv'=> ?_⟩;rw[Array.getElem?_extract] at hv hv';rw[<-h.size] at hv'
   split at hv
   ·rename_i hlt;rw[if_pos hlt] at hv';exact hm.get _ _ _ hv hv'
   ·cases hv
  exact .agg hx.size hx.get
 ·cases e:c[o]? with
  |none=>exact aJ (aI _) _
  |some x=>
   obtain⟨x',e',hx⟩:=h.hit e;rw[e'];exact au fun _ hl=>(hx.mono h1).mono hl
theorem oq {a a':aD} (h:AR R a a'):Sim P F (fun R x x'=>AR R x.1 x'.1/\x.2=x'.2) R (behindNumber a) (behindNumber a'):=by
 have ha:=h
 cases h with
 | @mk b b' o s hb=>
 unfold behindNumber;refine aj (UM hb) fun R1 h1 x x' hx=> ?_
 cases hx with
 |none=>exact au fun _ hl=>⟨(ha.mono h1).mono hl,rfl⟩
 |some l hr=>exact au fun _ hl=>⟨hr.mono hl,rfl⟩
theorem Vq {a a':aD} (h:AR R a a') (l:Bool):Sim P F (fun R v v'=>VR F R v v') R (asNumber a l) (asNumber a' l):=by
 unfold asNumber;refine aj (UL h l) fun R1 _ n n' hn=> ?_;exact au fun _ hl=> .pointer (.mk 0 none (hl.rel _ _ hn))
theorem JB (ts:Array tI) (t:tI) {v v' x x':vL} (h:VR F R v v') (hx:VR F R x x'):Sim P F (fun R v v'=> ∃a a',v= .pointer (some a)/\v'= .pointer (some a')/\AR R a a') R (Builtin.unsafeAdd_ ts t #[v,x]) (Builtin.unsafeAdd_ ts t #[v',x']):=by
 have hv:=h
 cases h with
 |nilPointer=>
  show Sim P F (fun R (v v':vL)=> ∃a a',v= .pointer (some a)/\v'= .pointer (some a')/\AR R a a') R (asInt x >>= _) (asInt x' >>= _)
  refine aj (Jw hx) fun R1 h1 n n' hn=> ?_;refine aJ ?_ _;dsimp only
  (repeat' first |exact aI _ |split)
 | @pointer a a' ha=>
  show Sim P F (fun R (v v':vL)=> ∃a a',v= .pointer (some a)/\v'= .pointer (some a')/\AR R a a') R (asInt x >>= _) (asInt x' >>= _)
  refine aj (Jw hx) fun R1 h1 n n' hn=> ?_;obtain rfl:=hn;have ha1:=ha.mono h1
  cases ha with
  | @mk b b' o s hb=>
  have hb1:=h1.rel _ _ hb;dsimp only
  split
  ·refine aj (Jm hb1) fun R2 h2 y y' hy=> ?_;rw[hy.1,hy.2];exact au fun _ hl=>⟨_,_,rfl,rfl,(ha1.mono h2).mono hl⟩
  ·split
   ·exact aJ (aI _) _
   ·refine aj (Jk hb1) fun R2 h2 y y' hy=> ?_;obtain rfl:=hy
    cases y with
    |none=>exact aJ (aI _) _
    |some ec=>
     obtain⟨e,cells⟩:=ec;dsimp only;refine aj kK fun R3 h3 p p' hp=> ?_;rw[hp.1,hp.2]
     split
     ·exact au fun _ hl=>⟨_,_,rfl,rfl,.mk _ _ (hl.rel _ _ (h3.rel _ _ (h2.rel _ _ hb1)))⟩
     ·exact aJ (aI _) _
 |_=>exact aJ (aI _) _
theorem rY (t:tI) {v v' x x':vL} (h:VR F R v v') (hx:VR F R x x'):Sim P F (fun R v v'=>VR F R v v') R (movedNumber t v x) (movedNumber t v' x'):=by
 unfold movedNumber;refine aj (kL t) fun R1 h1 d d' hd=> ?_;obtain⟨rfl,_⟩:=hd;dsimp only
 split
 ·exact aJ (aI _) _
 ·have hv1:=h.mono h1;have hx1:=hx.mono h1
  cases h with
  | @pointer a a' ha=>
   refine aj (oq (ha.mono h1)) fun R2 h2 y y' hy=> ?_;obtain⟨z,l⟩:=y;obtain⟨z',l'⟩:=y';obtain⟨hz,hl⟩:=hy;simp only at hz hl;subst hl;refine aj (JB _ _ (.pointer hz) (hx1.mono h2)) fun R3 h3 q q' hq=> ?_;obtain⟨p,p',rfl,rfl,hq⟩:=hq;exact Vq hq l
  |poison hs=>exact aJ (aI _) _
  |_=>exact Jf (JB #[] t hv1 hx1) fun _ _ v v' ⟨_,_,e1,e2,ha⟩=>by subst e1 e2;exact .pointer ha
theorem JC {a a' b b':aD} (h:AR R a a') (hx:AR R b b') (hg: ∀R1,R.le R1-> ∀w u,WR P F R1 w u->(a.block=b.block↔a'.block=b'.block)/\(a.block<P.globals.size↔a'.block<P.globals.size)):
  Sim P F (fun _ x x'=>x=x') R (Op.twoPlaces a b) (Op.twoPlaces a' b'):=by
 intro R1 hR w u hw;obtain⟨h1,h2⟩:=hg R1 hR w u hw;have key:Sim P F (fun _ x x'=>x=x') R1 (Op.twoPlaces a b) (Op.twoPlaces a' b'):=by
  unfold Op.twoPlaces;refine aj kK fun R2 hl2 p p' hp=> ?_;rw[hp.1,hp.2];have e1:(a.block != b.block)=(a'.block != b'.block):=by
   by_cases e:a.block=b.block
   ·have:=h1.1 e;simp[e,this]
   ·have:a'.block≠b'.block:=fun x=>e (h1.2 x);have x1:(a.block==b.block)=false:=by simpa using e
    have x2:(a'.block==b'.block)=false:=by simpa using this
    simp only[bne,x1,x2]
  have e2:decide (a.block≥P.globals.size)=decide (a'.block≥P.globals.size):=by
   by_cases e:a.block<P.globals.size
   ·have:=h2.1 e;simp[show ¬P.globals.size<=a.block by omega,show ¬P.globals.size<=a'.block by omega]
   ·have: ¬a'.block<P.globals.size:=fun x=>e (h2.2 x);simp[show P.globals.size<=a.block by omega,show P.globals.size<=a'.block by omega]
  rw[e1,e2]
  split
  ·exact aJ (aI _) _
  ·refine aj (pY ((h.mono hR).mono hl2)) fun R3 hl3 x x' hxx=> ?_;obtain rfl:=hxx;refine aj (pY (((hx.mono hR).mono hl2).mono hl3)) fun R4 hl4 y y' hyy=> ?_;obtain rfl:=hyy;exact au fun _ _=>rfl
 exact key R1 (.refl _) w u hw
theorem Dw {a a' b b':aD} (h:AR R a a') (hx:AR R b b'): ∀R1,R.le R1-> ∀w u,WR P F R1 w u->(a.block=b.block↔a'.block=b'.block)/\(a.block<P.globals.size↔a'.block<P.globals.size):=by
 intro R1 hR w u hw
 cases h with
 | @mk n n' o s hn=>
 cases hx with
 | @mk m m' o2 s2 hm=>
 have hn1:=hR.rel _ _ hn;have hm1:=hR.rel _ _ hm;refine⟨⟨fun e=> ?_,fun e=> ?_⟩,⟨fun e=> ?_,fun e=> ?_⟩⟩
 ·simp only at e;subst e;exact hw.fn _ _ _ hn1 hm1
 ·simp only at e;subst e;exact hw.inj _ _ _ hn1 hm1
 ·simp only at e ⊢; have:=hw.glob _ _ hn1 (.inl e);omega
 ·simp only at e ⊢; have:=hw.glob _ _ hn1 (.inr e);omega
theorem Vr (k:IntKind) {a a' b b':aD} (h:AR R a a') (hx:AR R b b'):Sim P F (fun R v v'=>VR F R v v') R (Op.addrSub k a b) (Op.addrSub k a' b'):=by
 unfold Op.addrSub;refine aj (JC h hx (Dw h hx)) fun R1 h1 x x' hxx=> ?_;obtain rfl:=hxx;exact au fun _ _=> .int _ _
theorem Vs (o:BinOp) {a a' b b':aD} (h:AR R a a') (hx:AR R b b'):Sim P F (fun R v v'=>VR F R v v') R (Op.addrCmp o a b) (Op.addrCmp o a' b'):=by
 unfold Op.addrCmp;refine aj (JC h hx (Dw h hx)) fun R1 h1 x x' hxx=> ?_;obtain rfl:=hxx;obtain⟨x,y⟩:=x;dsimp only
 split<;>first |exact au fun _ _=> .bool _ |exact aJ (aI _) _
def iI (P:pQ):Nat->tI->Bool
 | 0,_=>false
 |d+1,t=>match P.underlying t with
  |some (.int _)=>(match P.info? t with |some i=>(match i.desc with | .named n _=>n != "sync.copyChecker" |_=>true) |none=>false)
  |some (.array _ e)=>iI P d e
  |some (.struct fs)=>fs.all fun f=>iI P d f.type
  |_=>false
def lK (P:pQ) (o:BinOp) (t:tI):Bool:=match o with
 | .add | .sub | .lss | .leq | .gtr | .geq=>(match P.underlying t with |some (.int _)=>true |_=>false)
 | .eql | .neq=>iI P 8 t&& !P.eqGuardType P.depth t
 |_=>false
end
end Go.Tp
