/- A part of the proof of a law; no conditions of its own. -/
import Derived.Test.YtfiiffnbggnkfaaDoorAv06
open Go renaming Frame→fR, FuncId→fI, Program→pQ, TypeId→tI, Value→vL
set_option maxRecDepth 100000
open Array renaming getElem?_eq_getElem→aG
set_option maxHeartbeats 4000000
namespace Go.Tp
section
variable {P:pQ} {F:fI->Bool} {R:Rl} {β γ:Type}
theorem Dx {f g:γ->β->Sem (ForInStep β)}: ∀{l:List γ} {R:Rl},(∀R1,R.le R1-> ∀x∈l,∀b,Sim P F (fun _ x x'=>x=x') R1 (f x b) (g x b))-> ∀(init:β),Sim P F (fun _ x x'=>x=x') R (forIn l init f) (forIn l init g)
 | [],R,_,_=>au fun _ _=>rfl
 |x::l,R,h,b=>by
  rw[List.forIn_cons,List.forIn_cons];refine aj (h R (.refl _) x (List.mem_cons_self ..) b) fun R1 h1 s s' hs=> ?_;obtain rfl:=hs
  cases s with
  |done c=>exact au fun _ _=>rfl
  |yield c=>exact Dx (fun R2 h2 y hy=>h R2 (h1.trans h2) y (List.mem_cons_of_mem _ hy)) c
theorem Dy: ∀(d:Nat) (d':Nat) (t:tI),iI P d t=true-> ∀(R:Rl) {x x' y y':vL},VR F R x x'->VR F R y y'->Sim P F (fun _ b b'=>b=b') R (Op.equalIn d' t x y) (Op.equalIn d' t x' y')
  | 0,_,_,h,_,_,_,_,_,_,_=>by cases h
  |d+1,0,t,_,R,x,x',y,y',hx,hy=>aJ (aI _) _
  |d+1,d'+1,t,h,R,x,x',y,y',hx,hy=>by
    unfold Op.equalIn;refine aj (kL t) fun R1 h1 dd dd' hd=> ?_;obtain⟨rfl,hd⟩:=hd;unfold iI at h;rw[hd] at h;have hx1:=hx.mono h1;have hy1:=hy.mono h1
    cases dd with
    |int k=>
      dsimp only at h
      cases hx1 with
      |int k1 n1=>
        cases hy1 with
        |int k2 n2=>
          dsimp only
          split
          · exact au fun _ _=>rfl
          · exact aJ (aI _) _
        |pointer hb=>
          rcases n1 with (_ |n1) |n1
          · exact au fun _ _=>rfl
          · exact aJ (aI _) _
          · exact aJ (aI _) _
        |_=>exact aJ (aI _) _
      |pointer ha=>
        cases hy1 with
        |int k2 n2=>
          rcases n2 with (_ |n2) |n2
          · exact au fun _ _=>rfl
          · exact aJ (aI _) _
          · exact aJ (aI _) _
        |pointer hb=>
          dsimp only;refine aj (oq ha) fun R2 h2 z z' hz=> ?_;refine aj (oq (hb.mono h2)) fun R3 h3 q q' hq=> ?_;refine aj kK fun R4 h4 p p' hp=> ?_;rw[hp.1,hp.2];have hz4:=(hz.1.mono h3).mono h4;have hq4:=hq.1.mono h4;have hdesc: ∀R5,R4.le R5->Sim P F (fun _ b b'=>b=b') R5
              (do
                let .named "sync.copyChecker" _:=(<-typeInfo t).desc |unsupported .addressObserved
                if z.1==q.1 then pure true else unsupported .addressObserved)
              (do
                let .named "sync.copyChecker" _:=(<-typeInfo t).desc |unsupported .addressObserved
                if z'.1==q'.1 then pure true else unsupported .addressObserved):=fun R5 h5=>by
            refine aj (Du t) fun R6 h6 i i' hi=> ?_;obtain⟨rfl,hi⟩:=hi;rw[hi] at h;refine aJ ?_ _
            split
            · rename_i e
              dsimp only at h;rw[e] at h;simp at h
            · exact aI _
          intro R5 h5 w u hw;have hiff:=Dw hz4 hq4 R5 h5 w u hw;have e1:(z.1.block==q.1.block&&decide (z.1.block<P.globals.size))=(z'.1.block==q'.1.block&&decide (z'.1.block<P.globals.size)):=by
            by_cases e:z.1.block=q.1.block
            · have e':=hiff.1.1 e
              by_cases g:z.1.block<P.globals.size
              · have g':=hiff.2.1 g
                have x1:(z.1.block==q.1.block)=true:=by simpa using e
                have x2:(z'.1.block==q'.1.block)=true:=by simpa using e'
                rw[x1,x2,decide_eq_true g,decide_eq_true g']
              · have g': ¬z'.1.block<P.globals.size:=fun x=>g (hiff.2.2 x)
                simp[g,g']
            · have e':z'.1.block≠q'.1.block:=fun x=>e (hiff.1.2 x)
              have x1:(z.1.block==q.1.block)=false:=by simpa using e
              have x2:(z'.1.block==q'.1.block)=false:=by simpa using e'
              rw[x1,x2];rfl
          rw[e1];have key:Sim P F (fun _ b b'=>b=b') R5
              (if (z'.1.block==q'.1.block&&decide (z'.1.block<P.globals.size))=true then do return (<-byteOf z.1)==(<-byteOf q.1)
               else do
                let .named "sync.copyChecker" _:=(<-typeInfo t).desc |unsupported .addressObserved
                if z.1==q.1 then pure true else unsupported .addressObserved)
              (if (z'.1.block==q'.1.block&&decide (z'.1.block<P.globals.size))=true then do return (<-byteOf z'.1)==(<-byteOf q'.1)
               else do
                let .named "sync.copyChecker" _:=(<-typeInfo t).desc |unsupported .addressObserved
                if z'.1==q'.1 then pure true else unsupported .addressObserved):=by
            split
            · refine aj (pY (hz4.mono h5)) fun R6 h6 a a' ha=> ?_
              obtain rfl:=ha;refine aj (pY ((hq4.mono h5).mono h6)) fun R7 h7 a a' ha=> ?_;obtain rfl:=ha;exact au fun _ _=>rfl
            · exact hdesc R5 h5
          exact key R5 (.refl _) w u hw
        |_=>exact aJ (aI _) _
      |_=>cases hy1<;>exact aJ (aI _) _
    |array n e=>
      dsimp only at h
      cases hx1 with
      |agg x1 x2=>
        cases hy1 with
        |agg y1 y2=>
          dsimp only;refine aj (nI e) fun R2 h2 m m' hm=> ?_;obtain rfl:=hm;refine aj (A:=fun _ x x'=>x=x') ?_ fun R3 h3 s s' hs=> ?_
          · rw[Std.Legacy.Range.forIn_eq_forIn_range',Std.Legacy.Range.forIn_eq_forIn_range']
            refine Dx (fun R3 h3 i _ b=> ?_) _;refine aj (Aj (VRs.mono (h2.trans h3) ⟨x1,x2⟩) e _) fun R4 h4 u u' hu=> ?_;refine aj (Aj (VRs.mono ((h2.trans h3).trans h4) ⟨y1,y2⟩) e _) fun R5 h5 v v' hv=> ?_;refine aj (Dy d d' e h R5 (hu.mono h5) hv) fun R6 h6 b b' hb=> ?_;obtain rfl:=hb
            split<;>exact au fun _ _=>rfl
          · obtain rfl:=hs
            split<;>exact au fun _ _=>rfl
        |_=>exact aJ (aI _) _
      |_=>cases hy1<;>exact aJ (aI _) _
    |struct fs=>
      dsimp only at h
      cases hx1 with
      |agg x1 x2=>
        cases hy1 with
        |agg y1 y2=>
          dsimp only;refine aj kK fun R2 h2 p p' hp=> ?_;rw[hp.1,hp.2]
          split
          · exact aJ (aI _) _
          refine aj (A:=fun _ x x'=>x=x') ?_ fun R3 h3 s s' hs=> ?_
          · rw[<-Array.forIn_toList,<-Array.forIn_toList]
            refine Dx (fun R3 h3 f hf b=> ?_) _;have hft:iI P d f.type=true:=by
              rw[Array.all_eq_true_iff_forall_mem] at h;exact h f (by simpa using hf)
            split
            · refine aj (Aj (VRs.mono (h2.trans h3) ⟨x1,x2⟩) f.type _) fun R4 h4 u u' hu=> ?_
              refine aj (Aj (VRs.mono ((h2.trans h3).trans h4) ⟨y1,y2⟩) f.type _) fun R5 h5 v v' hv=> ?_;refine aj (Dy d d' f.type hft R5 (hu.mono h5) hv) fun R6 h6 b b' hb=> ?_;obtain rfl:=hb
              split<;>exact au fun _ _=>rfl
            · exact au fun _ _=>rfl
          · obtain rfl:=hs
            split<;>exact au fun _ _=>rfl
        |_=>exact aJ (aI _) _
      |_=>cases hy1<;>exact aJ (aI _) _
    |_=>cases h
theorem JD (o:BinOp) (k:FloatKind) (x y:Nat):Sim P F (fun R v v'=>VR F R v v'/\ ∃r,v= .float k r/\v'= .float k r) R (Op.floatArith o k x y) (Op.floatArith o k x y):=by
  unfold Op.floatArith;have key: ∀(R1:Rl) (res:Option Nat),Sim P F (fun R v v'=>VR F R v v'/\ ∃r,v= .float k r/\v'= .float k r) R1
      (match res with |some r=>pure (.float k r) |none=>do pure (.float k (<-choose (.nanBits k x y)))) (match res with |some r=>pure (.float k r) |none=>do pure (.float k (<-choose (.nanBits k x y)))):=fun R1 res=>by
    cases res with
    |some r=>exact au fun _ _=>⟨.float _ _,r,rfl,rfl⟩
    |none=>
      refine aj (Jl _) fun R1 _ n n' hn=> ?_;obtain rfl:=hn;exact au fun _ _=>⟨.float _ _,n,rfl,rfl⟩
  cases o<;>first |exact key R _ |exact aJ (aI _) _
theorem Ak (o:BinOp) (k:FloatKind) (x y:Nat):Sim P F (fun R v v'=>VR F R v v') R (Op.floatCmp o k x y) (Op.floatCmp o k x y):=by
 unfold Op.floatCmp;dsimp only
 split<;>first |exact au fun _ _=> .bool _ |exact dY _ _
theorem Am (o:BinOp) (k:FloatKind) (x y:Nat):Sim P F (fun _ n n'=>n=n') R (Op.Complex.arith o k x y) (Op.Complex.arith o k x y):=by
 unfold Op.Complex.arith;refine aj (JD o k x y) fun R1 _ v v' hv=> ?_;obtain⟨_,r,rfl,rfl⟩:=hv;exact au fun _ _=>rfl
theorem Ap (o:BinOp) (k:FloatKind) (x y:Nat):Sim P F (fun _ n n'=>n=n') R (Op.Complex.cmp o k x y) (Op.Complex.cmp o k x y):=by
 unfold Op.Complex.cmp;exact aj (Ak o k x y) fun R1 _ v v' hv=>Jy hv
theorem rZ {o:BinOp} (ho:o≠ .mul/\o≠ .quo) (k:FloatKind) (a b c d:Nat):Sim P F (fun R v v'=>VR F R v v') R (Op.complexOp o k a b c d) (Op.complexOp o k a b c d):=by
 unfold Op.complexOp
 split
 ·refine aj (Am _ _ _ _) fun R1 _ n n' hn=> ?_;obtain rfl:=hn;refine aj (Am _ _ _ _) fun R1 _ n n' hn=> ?_;obtain rfl:=hn;exact au fun _ _=> .complex _ _ _
 ·refine aj (Am _ _ _ _) fun R1 _ n n' hn=> ?_;obtain rfl:=hn;refine aj (Am _ _ _ _) fun R1 _ n n' hn=> ?_;obtain rfl:=hn;exact au fun _ _=> .complex _ _ _
 ·exact absurd rfl ho.1
 ·exact absurd rfl ho.2
 ·refine aj (Ap _ _ _ _) fun R1 _ n n' hn=> ?_;obtain rfl:=hn;refine aj (Ap _ _ _ _) fun R1 _ n n' hn=> ?_;obtain rfl:=hn;exact au fun _ _=> .bool _
 ·refine aj (Ap _ _ _ _) fun R1 _ n n' hn=> ?_;obtain rfl:=hn;refine aj (Ap _ _ _ _) fun R1 _ n n' hn=> ?_;obtain rfl:=hn;exact au fun _ _=> .bool _
 ·exact dY _ _
theorem Vt {α:Type} {t:tI} {f:TypeDesc->Sem α} (h: ∀d,P.underlying t=some d->iR P (f d)):iR P (underlying t >>= f):=by
 intro w es a w1 es1 hr;rw[runT_bind] at hr;unfold underlying at hr;rw[runT_bind] at hr;simp only[program,Sem.runT] at hr
 cases e:P.underlying t with
 |none=>rw[e] at hr;cases hr
 |some d=>rw[e] at hr;exact h d e _ _ _ _ _ hr
theorem qh {t:tI} (h:iI P 8 t=true) (x y:vL) (hxy:x= .tuple #[]\/y= .tuple #[]):iR P (Op.equal t x y):=by
 show iR P (Op.equalIn (9999+1) t x y)
 unfold Op.equalIn;refine Vt fun d hd=> ?_;unfold iI at h;rw[hd] at h
 rcases hxy with rfl |rfl
 ·cases d with
  |int k=>cases y<;>exact aI _
  |array n e=>cases y<;>exact aI _
  |struct fs=>cases y<;>exact aI _
  |_=>cases h
 ·cases d with
  |int k=>
   cases x with
   |pointer a=>cases a<;>exact aI _
   |int k n=>cases n with
    |ofNat n=>cases n<;>exact aI _
    |negSucc n=>exact aI _
   |_=>exact aI _
  |array n e=>cases x<;>exact aI _
  |struct fs=>cases x<;>exact aI _
  |_=>cases h
theorem qm {α β:Type} {s:Sem β} {f:β->Sem α} (h:iR P s):iR P (s >>= f):=fun w es a w1 es1 hr=>by
 rw[runT_bind] at hr
 cases hs:s.runT P w es with
 |mk r e=>
  rw[hs] at hr
  cases r with
  |ok b w2=>exact h _ _ _ _ _ hs
  |halt x w2=>cases hr
theorem Vu {o:BinOp} {t:tI} (ho:lK P o t=true) (x y:vL) (hxy:x= .tuple #[]\/y= .tuple #[]):iR P (binOp o t x y):=by
 have hit:(o= .eql\/o= .neq)->iI P 8 t=true:=fun h=>by
  rcases h with rfl |rfl<;>(simp only[lK,Bool.and_eq_true] at ho;exact ho.1)
 have h1:=hxy
 cases o with
 |add |sub |lss |leq |gtr |geq=>
  rcases hxy with rfl |rfl
  ·cases y<;>exact aI _
  ·cases x with
   |pointer a=>cases a<;>exact aI _
   |_=>exact aI _
 |eql |neq=>
  have h8:=hit (by simp)
  rcases hxy with rfl |rfl
  ·cases y<;>exact qm (qh h8 _ _ h1)
  ·cases x<;>exact qm (qh h8 _ _ h1)
 |_=>cases ho
theorem Vw {o:BinOp} {t:tI} (ho:lK P o t=true) {x x' y y':vL} (hx:VR F R x x') (hy:VR F R y y'):Sim P F (fun R v v'=>VR F R v v') R (binOp o t x y) (binOp o t x' y'):=by
  have heq: ∀{x x' y y':vL},iI P 8 t=true->VR F R x x'->VR F R y y'->Sim P F (fun _ b b'=>b=b') R (Op.equal t x y) (Op.equal t x' y'):=fun h hx hy=>Dy 8 _ t h R hx hy;have e1: ∀{x x' y y':vL},iI P 8 t=true->VR F R x x'->VR F R y y'->Sim P F (fun R v v'=>VR F R v v') R (do pure (.bool (<-Op.equal t x y))) (do pure (.bool (<-Op.equal t x' y'))):=fun h hx hy=>by
    refine aj (heq h hx hy) fun R1 _ b b' hb=> ?_;obtain rfl:=hb;exact au fun _ _=> .bool _
  have e2: ∀{x x' y y':vL},iI P 8 t=true->VR F R x x'->VR F R y y'->Sim P F (fun R v v'=>VR F R v v') R (do pure (.bool (!(<-Op.equal t x y)))) (do pure (.bool (!(<-Op.equal t x' y')))):=fun h hx hy=>by
    refine aj (heq h hx hy) fun R1 _ b b' hb=> ?_;obtain rfl:=hb;exact au fun _ _=> .bool _
  have hfa: ∀(o:BinOp) (k:FloatKind) (x y:Nat),Sim P F (fun R v v'=>VR F R v v') R (Op.floatArith o k x y) (Op.floatArith o k x y):=fun o k x y=>Jf (JD o k x y) fun _ _ _ _ h=>h.1;have hsub: ∀{a a' b b':Addr},AR R a a'->AR R b b'->Sim P F (fun R v v'=>VR F R v v') R (do Op.addrSub .u64 (<-behindNumber a).1 (<-behindNumber b).1) (do Op.addrSub .u64 (<-behindNumber a').1 (<-behindNumber b').1):=fun ha hb=>
    aj (oq ha) fun R1 h1 z z' hz=>aj (oq (hb.mono h1)) fun R2 h2 q q' hq=>Vr _ (hz.1.mono h2) hq.1
  have hcmp: ∀(o:BinOp) {a a' b b':Addr},AR R a a'->AR R b b'->Sim P F (fun R v v'=>VR F R v v') R (do Op.addrCmp o (<-behindNumber a).1 (<-behindNumber b).1) (do Op.addrCmp o (<-behindNumber a').1 (<-behindNumber b').1):=fun o _ _ _ _ ha hb=>
    aj (oq ha) fun R1 h1 z z' hz=>aj (oq (hb.mono h1)) fun R2 h2 q q' hq=>Vs _ (hz.1.mono h2) hq.1
  have hite: ∀(c:Prop) [Decidable c] (m:String) (s:Sem vL),Sim P F (fun R v v'=>VR F R v v') R s s->Sim P F (fun R v v'=>VR F R v v') R (if c then stuck m else s) (if c then stuck m else s):=fun c _ m s hs=>by
    split
    · exact dY _ _
    · exact hs
  have hmv: ∀{x x' y y':vL},P.underlying t≠some .unsafePointer->VR F R x x'->VR F R y y'->Sim P F (fun R v v'=>VR F R v v') R
      (do if (<-underlying t) matches .unsafePointer then movedPointer t x y else movedNumber t x y) (do if (<-underlying t) matches .unsafePointer then movedPointer t x' y' else movedNumber t x' y'):=fun hn hx hy=>by
    refine aj (kL t) fun R1 h1 d d' hd=> ?_;obtain⟨rfl,hd⟩:=hd
    split
    · exact absurd hd hn
    · rw[if_neg (by simp),if_neg (by simp)]
      exact rY t (hx.mono h1) (hy.mono h1)
  have hnp:(o= .add\/o= .sub)->P.underlying t≠some .unsafePointer:=fun h e=>by
    rcases h with rfl |rfl<;>simp[lK,e] at ho
  have hit:(o= .eql\/o= .neq)->iI P 8 t=true:=fun h=>by
    rcases h with rfl |rfl<;>(simp only[lK,Bool.and_eq_true] at ho;exact ho.1)
  cases o with
  |add=>
    cases hx<;>cases hy<;>first
      |exact aJ (aI _) _
      |exact hite _ _ _ (JA _ _ _ _)
      |exact hite _ _ _ (hfa _ _ _ _)
      |exact hite _ _ _ (rZ (by decide) _ _ _ _ _)
      | (unfold binOp;exact qg _ _ _)
      | (refine rY t (.pointer ?_) (.int _ _);assumption)
      |exact rY t .nilPointer (.int _ _)
      | (refine hmv (hnp (.inl rfl)) (.pointer ?_) (.int _ _);assumption)
      |exact hmv (hnp (.inl rfl)) .nilPointer (.int _ _)
  |sub=>
    cases hx<;>cases hy<;>first
      |exact aJ (aI _) _
      |exact hite _ _ _ (JA _ _ _ _)
      |exact hite _ _ _ (hfa _ _ _ _)
      |exact hite _ _ _ (rZ (by decide) _ _ _ _ _)
      | (unfold binOp;exact qg _ _ _)
      | (refine rY t (.pointer ?_) (.int _ _);assumption)
      |exact rY t .nilPointer (.int _ _)
      | (refine hsub ?_ ?_<;>assumption)
  |lss |leq |gtr |geq=>
    cases hx<;>cases hy<;>first
      |exact aJ (aI _) _
      |exact hite _ _ _ (Dv _ _ _)
      |exact hite _ _ _ (Ak _ _ _ _)
      |exact hite _ _ _ (rZ (by decide) _ _ _ _ _)
      | (unfold binOp;exact qg _ _ _)
      | (refine hcmp _ ?_ ?_<;>assumption)
  |eql=>
    have h8:=hit (.inl rfl);have hx':=hx;have hy':=hy
    cases hx<;>cases hy<;>first
      |exact e1 h8 hx' hy'
      |exact aJ (qm (qh h8 _ _ (.inr rfl))) _
      |exact aJ (qm (qh h8 _ _ (.inl rfl))) _
      |exact hite _ _ _ (Dv _ _ _)
      |exact hite _ _ _ (Ak _ _ _ _)
      |exact hite _ _ _ (rZ (by decide) _ _ _ _ _)
      | (unfold binOp;exact qg _ _ _)
  |neq=>
    have h8:=hit (.inr rfl);have hx':=hx;have hy':=hy
    cases hx<;>cases hy<;>first
      |exact e2 h8 hx' hy'
      |exact aJ (qm (qh h8 _ _ (.inr rfl))) _
      |exact aJ (qm (qh h8 _ _ (.inl rfl))) _
      |exact hite _ _ _ (Dv _ _ _)
      |exact hite _ _ _ (Ak _ _ _ _)
      |exact hite _ _ _ (rZ (by decide) _ _ _ _ _)
      | (unfold binOp;exact qg _ _ _)
  |_=>cases ho
end
section
variable {P:pQ} {F:fI->Bool} {R:Rl}
theorem Vx {d' d:Nat} {t:tI} (h:iI P d t=true):Sim P F (fun _ b b'=>b=false/\b'=false) R (Op.eqGuardIn d' t .nilIface .nilIface) (Op.eqGuardIn d' t .nilIface .nilIface):=by
 cases d' with
 |zero=>exact aJ (aI _) _
 |succ d'=>
  cases d with
  |zero=>cases h
  |succ d=>
   unfold Op.eqGuardIn;refine aj (kL t) fun R1 h1 dd dd' hd=> ?_;obtain⟨rfl,hd⟩:=hd;unfold iI at h;rw[hd] at h
   cases dd<;>first |exact au fun _ _=>⟨rfl,rfl⟩ | (cases h;done)
theorem Vy {o:BinOp} {t:tI} (ho:lK P o t=true) (p q:Operand) {x x' y y':vL} (hx:VR F R x x') (hy:VR F R y y') (nx:x≠ .tuple #[]) (ny:y≠ .tuple #[]):Sim P F (fun _ _ _=>True) R (eqGuard o t p q x y) (eqGuard o t p q x' y'):=by
  have go:iI P 8 t=true->P.eqGuardType P.depth t=false->Sim P F (fun _ _ _=>True) R (eqGuard .eql t p q x y) (eqGuard .eql t p q x' y'):=fun h8 hg=>by
    unfold eqGuard;simp only[Bool.not_true,Bool.false_eq_true,if_false]
    cases hx<;>cases hy<;>first
      |exact absurd rfl nx
      |exact absurd rfl ny
      |exact au fun _ _=>trivial
      | (refine aj kK fun R1 _ p p' hp=> ?_
         refine aj kK fun R2 _ q q' hq=> ?_;rw[hp.1,hp.2,hq.1,hq.2,hg];exact au fun _ _=>trivial)
      | (dsimp only
         (repeat' split)<;>first
           |exact au fun _ _=>trivial
           | (refine aj (Vx h8) fun R1 _ b b' hb=> ?_
              rw[hb.1,hb.2];exact au fun _ _=>trivial))
  cases o with
  |eql=>simp only[lK,Bool.and_eq_true,Bool.not_eq_true'] at ho;exact go ho.1 ho.2
  |neq=>simp only[lK,Bool.and_eq_true,Bool.not_eq_true'] at ho;exact go ho.1 ho.2
  |_=>exact au fun _ _=>trivial
theorem JE {γ:Type} {f:γ->Sem vL}: ∀{l:List γ} {f':γ->Sem vL} {R:Rl},(∀R1,R.le R1-> ∀x∈l,Sim P F (fun R v v'=>VR F R v v') R1 (f x) (f' x))->Sim P F (fun R a a'=>VRl F R a a') R (l.mapM f) (l.mapM f')
 | [],_,_,_=>au fun _ _=> .nil
 |x::l,f',R,h=>by
  rw[List.mapM_cons,List.mapM_cons];refine aj (h R (.refl _) x (List.mem_cons_self ..)) fun R1 h1 v v' hv=> ?_;refine aj (JE (l:=l) (f:=f) (f':=f') fun R2 h2 y hy=>h R2 (h1.trans h2) y (List.mem_cons_of_mem _ hy)) fun R2 h2 a a' ha=> ?_;exact au fun R3 h3=> .cons ((hv.mono h2).mono h3) (ha.mono h3)
theorem qo:VR F R undef undef:= .tuple rfl fun i v v' h=>by simp at h
theorem VRs.getD {c c':Array vL} (h:VRs F R c c') (i:Nat):VR F R (c.getD i undef) (c'.getD i undef):=by
 by_cases hi:i<c.size
 ·have e1:c[i]? =some c[i]:=aG hi;have hi':i<c'.size:=h.size▸hi;have e2:c'[i]? =some c'[i]:=aG hi';simp only[Array.getD,hi,hi',dif_pos];exact h.get i _ _ e1 e2
 ·have hi': ¬i<c'.size:=h.size▸hi;simp only[Array.getD,hi,hi',dif_neg,not_false_eq_true];exact qo
theorem VRl.length {l l':List vL} (h:VRl F R l l'):l.length=l'.length:=by
 induction h with
 |nil=>rfl
 |cons _ _ ih=>simp[ih]
theorem VRl.get {l l':List vL} (h:VRl F R l l'): ∀(i:Nat) (v v':vL),l[i]? =some v->l'[i]? =some v'->VR F R v v':=by
 induction h with
 |nil=>intro i v v' h;simp at h
 |cons hv _ ih=>
  intro i v v' h1 h2
  cases i with
  |zero=>simp at h1 h2;subst h1 h2;exact hv
  |succ i=>exact ih i v v' (by simpa using h1) (by simpa using h2)
theorem Vz (fn:Func) {c c':Array vL} (h:VRs F R c c'):Sim P F (fun R v v'=>VR F R v v') R (results fn c) (results fn c'):=by
 unfold results;rw[Array.mapM_eq_mapM_toList,Array.mapM_eq_mapM_toList];refine aj (A:=fun R a a'=>VRs F R a a') ?_ fun R1 h1 a a' ha=> ?_
 ·refine aj (JE fun R1 h1 x _=> ?_) fun R1 h1 l l' hl=> ?_
  ·cases x with
   |tmp t=>exact au fun _ h2=>((h.mono h1).mono h2).getD t
   |cell a t=>exact aj (UZ ((h.mono h1).getD a)) fun _ _ _ _ hb=>Jt hb t
  ·refine au fun R2 h2=>⟨by simpa using(hl.mono h2).length,fun i v v' e e'=>(hl.mono h2).get i v v' (by simpa using e) (by simpa using e')⟩
 ·refine au fun R2 h2=> ?_;have ha2:=ha.mono h2;by_cases e:a.size=1
  ·have e':a'.size=1:=ha2.size▸e;simp only[e,e',dif_pos];exact ha2.get 0 _ _ (aG (by omega)) (aG (by omega))
  ·have e': ¬a'.size=1:=ha2.size▸e;simp only[e,e',dif_neg,not_false_eq_true];exact .tuple ha2.size ha2.get
end
section
variable {P:pQ} {F:fI->Bool} {R:Rl}
def Dz:vL->Bool
 | .bool _ | .int .. | .float .. | .complex .. | .string _ | .pointer none | .slice none _ _ | .map none | .chan none | .nilFunc | .nilIface=>true
 |_=>false
theorem DC {v:vL} (h:Dz v=true):VR F R v v:=by
 cases v with
 |pointer a=>cases a with
  |none=>exact .nilPointer
  |some a=>cases h
 |slice a n c=>cases a with
  |none=>exact .nilSlice n c
  |some a=>cases h
 |map a=>cases a with
  |none=>exact .nilMap
  |some a=>cases h
 |chan a=>cases a with
  |none=>exact .nilChan
  |some a=>cases h
 |bool b=>exact .bool b
 |int k n=>exact .int k n
 |float k n=>exact .float k n
 |complex k n m=>exact .complex k n m
 |string s=>exact .string s
 |nilFunc=>exact .nilFunc
 |nilIface=>exact .nilIface
 |_=>cases h
def iJ (F:fI->Bool) (Gl:Nat->Bool):Operand->Bool
 | .tmp _=>true
 | .const v=>Dz v
 | .global g=>Gl g
 | .func f=>F f
def JF (P:pQ) (t:tI):Bool:=match P.underlying t with
 |some (.slice _) |some (.array ..) |some .string=>true
 |_=>false
def su:Nat->vL->Bool
 |n+1,.agg c=>c.all (su n)
 |n+1,.tuple c=>c.all (su n)
 |_,v=>Dz v
theorem JG: ∀(n:Nat) (v:vL),su n v=true->VR F R v v
 | 0,v,h=>DC (by cases v<;>first |exact h |cases h)
 |n+1,v,h=>by
  have key: ∀c:Array vL,c.all (su n)=true-> ∀(i:Nat) (a a':vL),c[i]? =some a->c[i]? =some a'->VR F R a a':=fun c hc i a a' e e'=>by
   rw[e,Option.some.injEq] at e';subst e';rw[Array.all_eq_true_iff_forall_mem] at hc;exact JG n a (hc a (Array.mem_of_getElem? e))
  cases v with
  |agg c=>exact .agg rfl (key c h)
  |tuple c=>exact .tuple rfl (key c h)
  |_=>exact DC h
def zeroS (P:pQ) (t:tI):Bool:=match (P.info? t).bind (·.zero) with
 |some z=>su 6 z
 |none=>true
theorem JH {t:tI} (h:zeroS P t=true):Af P F t:=by
 intro i z hi hz R;unfold zeroS at h;rw[hi,Option.bind_some,hz] at h;exact JG 6 z h
def opS (P:pQ) (F:fI->Bool) (Gl:Nat->Bool) (o:Oper):Bool:=match o.op with
 | .move x | .assign x | .box _ x | .load _ x | .fieldAddr _ x _ | .extract x _=>iJ F Gl x
 | .alloc t=>zeroS P t
 | .build t parts=>zeroS P t&&parts.all fun p=>iJ F Gl p.2
 | .store _ a x | .indexAddr _ a x=>iJ F Gl a&&iJ F Gl x
 | .binOp op t x y _=>lK P op t&&iJ F Gl x&&iJ F Gl y
 | .makeFunc (.func f) first captured=>F f&&first.all (iJ F Gl)&&captured.all (iJ F Gl)
 | .call {callee:= .value f,args, .. }=>iJ F Gl f&&args.all (iJ F Gl)
 | .call {callee:= .builtin .len,args,argTypes}=>match args.toList,argTypes[0]? with
  | [x],some t=>iJ F Gl x&&JF P t
  |_,_=>false
 | .call {callee:= .builtin .min,args, .. }=>args.all (iJ F Gl)
 |_=>false
structure FOk (P:pQ) (F:fI->Bool):Prop where
 body: ∀f,F f=true-> ∃fn b,P.funcs[f]? =some fn/\fn.body=some b/\(fn.name== "runtime.NumGoroutine")=false
def ER (F:fI->Bool) (Gl:Nat->Bool) (R:Rl) (ρ ρ':Operand->vL):Prop:= ∀x,iJ F Gl x=true->VR F R (ρ x) (ρ' x)
theorem ER.mono {Gl:Nat->Bool} {R':Rl} {ρ ρ':Operand->vL} (h:ER F Gl R ρ ρ') (hR:R.le R'):ER F Gl R' ρ ρ':=fun x hx=>(h x hx).mono hR
inductive lM (F:fI->Bool) (R:Rl):Next->Next->Prop
 |value {v v':vL}:VR F R v v'->lM F R (.value v) (.value v')
 |skip:lM F R .skip .skip
 |enter (f:fI) {a a':Array vL}:F f=true->VRs F R a a'->lM F R (.enter f a) (.enter f a')
variable {Gl:Nat->Bool} {ρ ρ':Operand->vL}
theorem Aq (hE:ER F Gl R ρ ρ') {a:Array Operand} (ha:a.all (iJ F Gl)=true):VRs F R (a.map ρ) (a.map ρ'):=by
 refine⟨by simp,fun i v v' h h'=> ?_⟩;rw[Array.getElem?_map] at h h'
 cases e:a[i]? with
 |none=>rw[e] at h;cases h
 |some x=>
  rw[e] at h h';simp only[Option.map_some,Option.some.injEq] at h h';subst h h';exact hE x (by rw[Array.all_eq_true_iff_forall_mem] at ha;exact ha x (Array.mem_of_getElem? e))
theorem VRs.append {a a' b b':Array vL} (h:VRs F R a a') (h':VRs F R b b'):VRs F R (a++b) (a'++b'):=by
 refine⟨by simp[h.size,h'.size],fun i v v' e e'=> ?_⟩;rw[Array.getElem?_append] at e e';rw[<-h.size] at e';by_cases hi:i<a.size
 ·rw[if_pos hi] at e e';exact h.get i v v' e e'
 ·rw[if_neg hi] at e e';exact h'.get _ v v' e e'
theorem jJ {s s':Sem vL} (h:Sim P F (fun R v v'=>VR F R v v') R s s'):Sim P F (fun R n n'=>lM F R n n') R (do pure (.value (<-s))) (do pure (.value (<-s'))):=
 aj h fun _ _ _ _ hv=>au fun _ h2=> .value (hv.mono h2)
theorem VA {s s':Sem Unit} (h:Sim P F (fun _ _ _=>True) R s s'):Sim P F (fun R n n'=>lM F R n n') R (do s;pure .skip) (do s';pure .skip):=
 aj h fun _ _ _ _ _=>au fun _ _=> .skip
theorem VB (hF:FOk P F) {f:fI} (hf:F f=true) {a a':Array vL} (ha:VRs F R a a'):Sim P F (fun R n n'=>lM F R n n') R (callFunc f a) (callFunc f a'):=by
 unfold callFunc;refine aj kK fun R1 h1 p p' hp=> ?_;obtain⟨rfl,rfl⟩:=hp;obtain⟨fn,b,e1,e2,e3⟩:=hF.body f hf;have e4:fn.body.isNone=false:=by rw[e2];rfl
 simp only[e1,e3,e4,Bool.false_eq_true,if_false];exact au fun _ h2=> .enter f hf ((ha.mono h1).mono h2)
theorem VD (hF:FOk P F) {v v':vL} (hv:VR F R v v') {a a':Array vL} (ha:VRs F R a a'):
  Sim P F (fun R n n'=>lM F R n n') R (do let d <-Deferred.ofValue v a;invoke d.target d.args) (do let d <-Deferred.ofValue v' a';invoke d.target d.args):=by
 cases hv with
 |func f hf h1 h2 h3 h4=>
  intro R1 hR;exact VB (R:=R) hF hf ((VRs.append (VRs.append ⟨h1,h2⟩ ha) ⟨h3,h4⟩)) R1 hR
 |nilFunc=>
  intro R1 hR w u hw es x w1 es1 hr;have h0:=Ah (P:=P) (α:=Next) .nilDeref w es x w1 es1;exact absurd hr h0
 |_=>exact aJ (noOk_bind' (aI _)) _
where
 noOk_bind' {α β:Type} {s:Sem β} {f:β->Sem α} (h:iR P s):iR P (s >>= f):=fun w es a w1 es1 hr=>by
  rw[runT_bind] at hr
  cases hs:s.runT P w es with
  |mk r e=>
   rw[hs] at hr
   cases r with
   |ok b w2=>exact h _ _ _ _ _ hs
   |halt x w2=>cases hr
theorem JI: ∀{l l':List vL} {R:Rl} {v v':vL},VRl F R l l'->VR F R v v'->Sim P F (fun R v v'=>VR F R v v') R (l.foldlM Builtin.min2 v) (l'.foldlM Builtin.min2 v')
 | [],_,R,v,v',h,hv=>by cases h;exact au fun _ h2=>hv.mono h2
 |x::_,_,R,v,v',h,hv=>by
  cases h with
  |cons hx hl=>
   rw[List.foldlM_cons,List.foldlM_cons];exact aj (Vp hv hx) fun R1 h1 _ _ hz=>JI (hl.mono h1) hz
theorem VE {a a':Array vL} (h:VRs F R a a') (ts:Array tI) (t:tI):Sim P F (fun R v v'=>VR F R v v') R (Builtin.min_ ts t a) (Builtin.min_ ts t a'):=by
 have hl:=h.toList;unfold Builtin.min_;generalize a.toList=l at hl;generalize a'.toList=l' at hl
 cases hl with
 |nil=>exact aJ (aI _) _
 |cons hx hl=>exact JI hl hx
theorem JJ (hE:ER F Gl R ρ ρ'): ∀{l:List (Nat×Operand)},(∀p∈l,iJ F Gl p.2=true)->PRl F R (l.map fun p=>(p.1,ρ p.2)) (l.map fun p=>(p.1,ρ' p.2))
 | [],_=> .nil
 |p::_,h=> .cons _ (hE _ (h p (List.mem_cons_self ..))) (JJ hE fun q hq=>h q (List.mem_cons_of_mem _ hq))
theorem VF (hF:FOk P F) {o:Oper} (ho:opS P F Gl o=true) (hE:ER F Gl R ρ ρ'):Sim P F (fun R n n'=>lM F R n n') R (execOp ρ o) (execOp ρ' o):=by
 obtain⟨dst,op,ty,pos,after,guard⟩:=o;unfold opS at ho;dsimp only at ho
 split at ho
 ·exact au fun _ h=> .value ((hE _ ho).mono h)
 ·exact au fun _ h=> .value ((hE _ ho).mono h)
 ·exact jJ (Vd (hE _ ho) _)
 ·exact jJ (Va (hE _ ho) _)
 ·exact jJ (UU (hE _ ho) _ _)
 ·exact jJ (Vf (hE _ ho) _)
 ·exact jJ (Ve (JH ho))
 ·rename_i t parts;simp only[Bool.and_eq_true] at ho;refine jJ (Vm (JH ho.1) ?_);obtain⟨_,ho⟩:=ho;rw[Array.all_eq_true_iff_forall_mem] at ho;rw[Array.toList_map,Array.toList_map];exact JJ hE fun p hp=>ho p (by simpa using hp)
 ·simp only[Bool.and_eq_true] at ho;exact VA (Vb (hE _ ho.1) (hE _ ho.2) _)
 ·simp only[Bool.and_eq_true] at ho;exact jJ (Vh (hE _ ho.1) (hE _ ho.2) _)
 ·simp only[Bool.and_eq_true] at ho;obtain⟨⟨h1,h2⟩,h3⟩:=ho;rename_i op t x y _;by_cases hp:ρ x= .tuple #[]\/ρ y= .tuple #[]
  ·exact jJ (aJ (Ag fun _=>Vu h1 _ _ hp) _)
  ·refine jJ (aj (Vy h1 _ _ (hE _ h2) (hE _ h3) (fun e=>hp (.inl e)) fun e=>hp (.inr e)) fun R1 hR1 _ _ _=> ?_);exact Vw h1 ((hE _ h2).mono hR1) ((hE _ h3).mono hR1)
 ·simp only[Bool.and_eq_true] at ho;obtain⟨⟨h1,h2⟩,h3⟩:=ho;exact jJ (Vg _ h1 (Aq hE h2) (Aq hE h3))
 ·simp only[Bool.and_eq_true] at ho;exact VD hF (hE _ ho.1) (Aq hE ho.2)
 ·rename_i args argTypes
  split at ho
  ·rename_i x t e1 e2;simp only[Bool.and_eq_true] at ho;obtain⟨h1,h2⟩:=ho;have ea:args= #[x]:=by apply Array.ext';simpa using e1
   subst ea;have ht:(∃e,P.underlying t=some (.slice e))\/(∃n e,P.underlying t=some (.array n e))\/P.underlying t=some .string:=by
    unfold JF at h2
    split at h2<;>first
     | (rename_i e;exact .inl ⟨_,e⟩)
     | (rename_i e;exact .inr (.inl ⟨_,_,e⟩))
     | (rename_i e;exact .inr (.inr e))
     |cases h2
   have e3: #[x].map ρ= #[ρ x]:=by simp
   have e4: #[x].map ρ'= #[ρ' x]:=by simp
   have key:=jJ (Vo (P:=P) ht argTypes e2 ty (hE x h1));rw[<-e3,<-e4] at key;intro R1 hR;exact key R1 hR
  ·cases ho
 ·rename_i args argTypes;intro R1 hR;exact jJ (VE (Aq hE ho) argTypes ty) R1 hR
 ·cases ho
end
section
open Go.Conc (mem_seen)
section
variable (P:pQ) (F:fI->Bool) (Gl:Nat->Bool)
def opC (o:Oper):Bool:=opS P F Gl o||(match o.op with | .send .. =>true |_=>false)
def jX:Code->Bool
 | .region _ ops _=>ops.all (opC P F Gl)
 | .seq a b=>jX a&&jX b
 | .cond c a b=>iJ F Gl c&&jX a&&jX b
 | .block _ c | .loop c | .scope c=>jX c
 | .skip | .exit _ | .label _ | .ret=>true
 |_=>false
def jK:Item->Bool
 | .code c | .inLoop c | .inScope c=>jX P F Gl c
 | .inRegion ops _=>ops.all (opC P F Gl)
 | .inBlock _=>true
 |_=>false
structure FC:Prop where
 body: ∀f,F f=true-> ∃fn b,P.funcs[f]? =some fn/\fn.body=some b/\(fn.name== "runtime.NumGoroutine")=false/\jX P F Gl b=true/\P.inits.idxOf? f=none
structure FrR (R:Rl) (fr fr':fR):Prop where
 fn:fr'.fn=fr.fn
 known:F fr.fn=true
 todo:fr'.todo=fr.todo
 items: ∀it∈fr.todo,jK P F Gl it=true
 defers:fr.defers= []
 defers':fr'.defers= []
 mode:fr'.mode=fr.mode
 kind:fr.kind≠ .early
 kind':fr'.kind=fr.kind
 round:fr.roundOf=none
 round':fr'.roundOf=none
 tmps:VRs F R fr.tmps fr'.tmps
inductive FrL (tl:List fR) (R:Rl):List fR->List fR->Prop
 |nil:FrL tl R [] tl
 |cons {fr fr':fR} {l l':List fR}:FrR P F Gl R fr fr'->(l= []\/fr.kind= .normal)->FrL tl R l l'->FrL tl R (fr::l) (fr'::l')
def jw (g:Goroutine):Prop:=g.status≠ .running\/g.dyingOn P\/
 (g.dying=none/\(∃c,g.frame.mode= .panicking c)/\ ∀fr∈g.frame::g.callers,fr.defers= []/\ ∃fn,P.funcs[fr.fn]? =some fn)
end
section
variable {P:pQ} {F:fI->Bool} {Gl:Nat->Bool} {tl:List fR} {R:Rl}
theorem FC.ok (h:FC P F Gl):FOk P F:=⟨fun f hf=>let ⟨fn,b,h1,h2,h3,_⟩:=h.body f hf;⟨fn,b,h1,h2,h3⟩⟩
theorem FrR.mono {R':Rl} {fr fr':fR} (h:FrR P F Gl R fr fr') (hR:R.le R'):FrR P F Gl R' fr fr':={h with tmps:=h.tmps.mono hR}
theorem FrL.mono {R':Rl} {l l':List fR} (h:FrL P F Gl tl R l l') (hR:R.le R'):FrL P F Gl tl R' l l':=by
 induction h with
 |nil=>exact .nil
 |cons h hk _ ih=>exact .cons (h.mono hR) hk ih
theorem FrL.all {l l':List fR} (h:FrL P F Gl tl R l l') (hF:FC P F Gl): ∀fr∈l,fr.defers= []/\ ∃fn,P.funcs[fr.fn]? =some fn:=by
 induction h with
 |nil=>intro fr h;cases h
 |cons h _ _ ih=>
  intro fr hm
  rcases List.mem_cons.1 hm with rfl |hm
  ·obtain⟨fn,b,h1,_⟩:=hF.body _ h.known;exact⟨h.defers,fn,h1⟩
  ·exact ih fr hm
theorem raise_mode (fr:fR) (c:List PanicEntry): ∃c',(fr.raise c).mode= .panicking c':=by
 unfold Frame.raise
 split<;>exact⟨_,rfl⟩
theorem JK (fr:fR) (c:List PanicEntry):(fr.raise c).defers=fr.defers/\(fr.raise c).fn=fr.fn:=by
 unfold Frame.raise
 split<;>exact⟨rfl,rfl⟩
theorem JL {fr:fR} {cs:List fR} {c:List PanicEntry} {st:GoStatus} {off:Option (Array CommCase×CommShape)} (h: ∀x∈fr::cs,x.defers= []/\ ∃fn,P.funcs[x.fn]? =some fn):
  jw P {frame:=fr.raise c,callers:=cs,status:=st,dying:=none,offers:=off}:=by
 refine .inr (.inr ⟨rfl,raise_mode fr c,fun x hx=> ?_⟩)
 rcases List.mem_cons.1 hx with rfl |hm
 ·have:=h fr (List.mem_cons_self ..);rw[(JK fr c).1,(JK fr c).2];exact this
 ·exact h x (List.mem_cons_of_mem _ hm)
theorem VG (noEnter: ∀todo,NoEnter P todo) {g g1:Goroutine} {w w1:World} {es:Array Event} (h:jw P g) (hr:g.status= .running) (hs:stepG P true g w= .go g1 w1 es):jw P g1:=by
 rcases h with h |h |⟨hd,⟨c,hc⟩,hall⟩
 ·exact absurd hr h
 ·have:=stepG_okD w h;rw[hs] at this;exact .inr (.inl this)
 ·obtain⟨fr,cs,st,dy,off⟩:=g;simp only at hd hc hall;subst hd;obtain⟨h1,fn,h2⟩:=hall fr (List.mem_cons_self ..);have hcat:fr.catches P=false:=by unfold Frame.catches;rw[h2]
  have e:stepG P true {frame:=fr,callers:=cs,status:=st,dying:=none,offers:=off} w=unwind P true fr cs none w:=by
   unfold stepG;dsimp only;simp only[hc]
  rw[e] at hs;unfold unwind at hs;rw[h1,hc] at hs;dsimp only at hs;rw[hcat] at hs;simp only[Bool.false_eq_true,if_false] at hs
  cases cs with
  |cons c0 rest=>
   simp only[GStep.go.injEq] at hs;obtain⟨rfl,_,_⟩:=hs;exact JL fun x hx=>hall x (List.mem_cons_of_mem _ hx)
  |nil=>
   dsimp only at hs
   split at hs
   ·simp only[GStep.go.injEq] at hs;obtain⟨rfl,_,_⟩:=hs;exact .inl (by simp)
   ·split at hs
    ·rename_i todo w2 _;simp only[GStep.go.injEq] at hs;obtain⟨rfl,_,_⟩:=hs;exact .inr (.inl ⟨.inl rfl,_,rfl,rfl,noEnter todo⟩)
    ·cases hs
    ·cases hs
theorem VH (noEnter: ∀todo,NoEnter P todo) {Stop:Goroutine->World->Prop} (hS: ∀g w,Stop g w-> ¬jw P g) {g:Goroutine} {w:World} (h:Run P Stop g w): ¬jw P g:=by
 induction h with
 |stop h=>exact hS _ _ h
 | @step g w next hrun _ hE ih=>
  intro hd;obtain⟨es,_,hs⟩:=(hE default 0).step noJ lF;exact ih default 0 (VG noEnter hd hrun hs)
theorem VI (G:Good P) {g g1:Goroutine} {w w1:World} {es:Array Event} (hg:lI g) (hd:g.dying=none) (hs:Started w) (h:stepG P true g w= .go g1 w1 es):
  (lI g1/\g1.dying=none/\Started w1)\/jw P g1:=by
 obtain⟨k,st,hF,_,hok,_⟩:=Jc G (main:=true) hg hd hs;obtain⟨es',_,e⟩:=hF w.tape w.drawn noJ lF (fun j _=>rfl) (.inl rfl);rw[dh] at e;simp only[h] at e
 cases st with
 |go g2 w2 es2=>
  simp only[GStep.tp,GStep.after,GStep.go.injEq] at e;obtain⟨rfl,rfl,_⟩:=e
  rcases hok with ⟨h1,h2,h3,h4⟩ |hdy
  ·exact .inl ⟨h1,h2,nD h4 _ _⟩
  ·exact .inr (.inr (.inl hdy))
 |_=>simp[GStep.tp,GStep.after] at e
theorem Ar {fr fr':fR} (h:FrR P F Gl R fr fr') {v v':vL} (hv:VR F R v v'):FrR P F Gl R (fr.finish v) (fr'.finish v'):=by
 obtain⟨fn,tmps,todo,defers,mode,kind,round⟩:=fr;obtain⟨fn',tmps',todo',defers',mode',kind',round'⟩:=fr';obtain⟨h1,h2,h3,h4,h5,h6,h7,h8,h9,h10,h11,h12⟩:=h;simp only at h1 h2 h3 h4 h5 h6 h7 h8 h9 h10 h11 h12;subst h3
 cases todo' with
 |nil=>exact⟨h1,h2,rfl,h4,h5,h6,h7,h8,h9,h10,h11,h12⟩
 |cons it k=>
  have hit:=h4 it (List.mem_cons_self ..);have hk: ∀x∈k,jK P F Gl x=true:=fun x hx=>h4 x (List.mem_cons_of_mem _ hx)
  cases it with
  |inRegion ops l=>
   cases l with
   |nil=>exact⟨h1,h2,rfl,h4,h5,h6,h7,h8,h9,h10,h11,h12⟩
   |cons i rest=>
    refine⟨h1,h2,rfl,fun x hx=> ?_,h5,h6,h7,h8,h9,h10,h11, ?_⟩
    ·rcases List.mem_cons.1 hx with rfl |hx
     ·exact hit
     ·exact hk x hx
    ·simp only[Frame.finish]
     cases(ops[i]?).bind (·.dst) with
     |none=>exact h12
     |some d=>exact h12.set hv d
  |code c=>exact⟨h1,h2,rfl,h4,h5,h6,h7,h8,h9,h10,h11,h12⟩
  |inBlock c=>exact⟨h1,h2,rfl,h4,h5,h6,h7,h8,h9,h10,h11,h12⟩
  |inLoop c=>exact⟨h1,h2,rfl,h4,h5,h6,h7,h8,h9,h10,h11,h12⟩
  |inScope c=>exact⟨h1,h2,rfl,h4,h5,h6,h7,h8,h9,h10,h11,h12⟩
  |_=>cases hit
theorem VJ (n:Nat) {v v':vL} (h:VR F R v v'):VRs F R (Array.replicate n v) (Array.replicate n v'):=by
 refine⟨by simp,fun i a a' e e'=> ?_⟩;rw[Array.getElem?_replicate] at e e'
 split at e<;>simp_all
theorem VK (hF:FC P F Gl) {f:fI} (hf:F f=true) {a a':Array vL} (ha:VRs F R a a'):FrR P F Gl R (Frame.enter P f a .normal) (Frame.enter P f a' .normal):=by
 obtain⟨fn,b,h1,h2,h3,h4,h5⟩:=hF.body f hf;refine⟨rfl,hf,rfl,fun it hit=> ?_,rfl,rfl,rfl,by simp[Frame.enter],rfl,rfl,rfl, ?_⟩
 ·simp only[Frame.enter,h1,h2,Option.bind_some,Option.getD_some,List.mem_cons,List.not_mem_nil,or_false] at hit;subst hit;exact h4
 ·simp only[Frame.enter];rw[ha.size];exact ha.append (VJ _ qo)
theorem ou {es es1:Array Event} {s:GStep} {g:Goroutine} {w:World} (h:GStep.after es s= .go g w es1): ∃es2,s= .go g w es2:=by
 cases s<;>simp only[GStep.after,GStep.go.injEq] at h<;>first | (cases h;done) |exact⟨_,by rw[h.1,h.2.1]⟩
structure GoK (P:pQ) (F:fI->Bool) (Gl:Nat->Bool) (tl:List fR) (R:Rl) (g g':Goroutine):Prop where
 frame:FrR P F Gl R g.frame g'.frame
 callers:FrL P F Gl tl R g.callers g'.callers
 run:g.status= .running
 run':g'.status= .running
 alive:g.dying=none
 alive':g'.dying=none
 mode:g.frame.mode= .run\/g.frame.mode= .returning
 cmode: ∀x∈g.callers,x.mode= .run
 nk:g.callers= []\/g.frame.kind= .normal
theorem JM {fr fr':fR} (h:FrR P F Gl R fr fr'): ∀d b r s k,fr.todo≠ .call d b r s::k:=by
 intro d b r s k e;have:=h.items _ (by rw[e];exact List.mem_cons_self ..)
 cases this
section
variable {fr:fR} {cs:List fR} {s:Sem Next} {w w1:World} {es0:Array Event}
theorem JO {v:vL} (hk:fr.kind≠ .early) (hr:s.runT P w #[]=(.ok (.value v) w1,es0)):
  stepG.apply P true fr cs none s w= .go {frame:=fr.finish v,callers:=cs,status:= .running,dying:=none} w1 (seen P fr.fn es0):=by
 have hke:(fr.kind==CallKind.early)=false:=by simpa using hk
 unfold stepG.apply;simp only[hr,hke,if_true,Bool.false_eq_true,if_false,GStep.after,Array.append_empty]
theorem JQ (hk:fr.kind≠ .early) (hr:s.runT P w #[]=(.ok .skip w1,es0)):
  stepG.apply P true fr cs none s w= .go {frame:=fr.finish undef,callers:=cs,status:= .running,dying:=none} w1 (seen P fr.fn es0):=by
 have hke:(fr.kind==CallKind.early)=false:=by simpa using hk
 unfold stepG.apply;simp only[hr,hke,if_true,Bool.false_eq_true,if_false,GStep.after,Array.append_empty]
theorem JR {f:fI} {a:Array vL} (hk:fr.kind≠ .early) (hnc: ∀d b r s k,fr.todo≠ .call d b r s::k) (hr:s.runT P w #[]=(.ok (.enter f a) w1,es0)):
  stepG.apply P true fr cs none s w= .go {frame:=Frame.enter P f a .normal,callers:=fr::cs,status:= .running,dying:=none} w1 (seen P fr.fn es0):=by
 have hke:(fr.kind==CallKind.early)=false:=by simpa using hk
 unfold stepG.apply;simp only[hr,hke,if_true,Bool.false_eq_true,if_false,GStep.after,Array.append_empty]
 split
 ·rename_i heq;exact absurd heq (hnc _ _ _ _ _)
 ·rfl
end
theorem sD (G:Good P) (hF:FC P F Gl) {fr fr':fR} {cs cs':List fR} (hf:FrR P F Gl R fr fr') (hm:fr.mode= .run) (hc:FrL P F Gl tl R cs cs') (hcm: ∀x∈cs,x.mode= .run) (hnk:cs= []\/fr.kind= .normal) {s s':Sem Next} (hs:Sim P F (fun R n n'=>lM F R n n') R s s')
  (hcalm:Calm P jH s) {w u:World} (hw:WR P F R w u) (hst:Started w) {g1:Goroutine} {w1:World} {es:Array Event} (h:stepG.apply P true fr cs none s w= .go g1 w1 es) (hnd: ¬jw P g1):
  ∃R2 g1' u1 es',R.le R2/\stepG.apply P true fr' cs' none s' u= .go g1' u1 es'/\GoK P F Gl tl R2 g1 g1'/\WR P F R2 w1 u1/\Fr R R2 u u1/\ ∀e∈es',EvR R2 e:=by
 have hke:(fr.kind==CallKind.early)=false:=by simpa using hf.kind
 have hk':fr'.kind≠ .early:=by rw[hf.kind'];exact hf.kind
 have hnc': ∀d b r s k,fr'.todo≠ .call d b r s::k:=by rw[hf.todo];exact JM hf
 cases hr:s.runT P w #[] with
 |mk r es0=>
  have hall: ∀x∈fr::cs,x.defers= []/\ ∃fn,P.funcs[x.fn]? =some fn:=fun x hx=>(FrL.cons hf hnk hc).all hF x hx
  cases r with
  |ok a w2=>
   obtain⟨R2,a',u1,us1,l2,e2,hw2,ha,hfr,hev⟩:=hs R (.refl R) w u hw #[] a w2 es0 hr #[];have hev': ∀x∈seen P fr'.fn us1,EvR R2 x:=fun x hx=>((hev x (mem_seen hx)).resolve_left (by simp))
   cases ha with
   |value hv=>
    rw[JO hf.kind hr,GStep.go.injEq] at h;obtain⟨rfl,rfl,_⟩:=h;exact⟨R2,_,u1,_,l2,JO hk' e2,⟨Ar (hf.mono l2) hv,hc.mono l2,rfl,rfl,rfl,rfl,by left;rw[finish_mode];exact hm,hcm,by rw[finish_kind];exact hnk⟩,hw2,hfr,hev'⟩
   |skip=>
    rw[JQ hf.kind hr,GStep.go.injEq] at h;obtain⟨rfl,rfl,_⟩:=h;exact⟨R2,_,u1,_,l2,JQ hk' e2,⟨Ar (hf.mono l2) qo,hc.mono l2,rfl,rfl,rfl,rfl,by left;rw[finish_mode];exact hm,hcm,by rw[finish_kind];exact hnk⟩,hw2,hfr,hev'⟩
   |enter f hff hargs=>
    rw[JR hf.kind (JM hf) hr,GStep.go.injEq] at h;obtain⟨rfl,rfl,_⟩:=h;exact⟨R2,_,u1,_,l2,JR hk' hnc' e2,⟨VK hF hff hargs,.cons (hf.mono l2) hnk (hc.mono l2),rfl,rfl,rfl,rfl,.inl rfl,fun x hx=>by
     rcases List.mem_cons.1 hx with rfl |hx
     ·exact hm
     ·exact hcm x hx,.inr rfl⟩,hw2,hfr,hev'⟩
  |halt x w2=>
   exfalso;unfold stepG.apply at h;simp only[if_true,hke,Bool.false_eq_true,if_false,hr] at h;obtain⟨k,r,h1,h2,_⟩:=Io s w hcalm hst;obtain⟨es',h3,_⟩:=h1 w.tape w.drawn noJ #[] lF (fun j _=>rfl) (.inl rfl);rw[dh,hr] at h3;have hx:okH x:=by
    cases r with
    |ok a w3=>simp[Result.tp] at h3
    |halt y w3=>
     simp only[Result.tp,Prod.mk.injEq,Result.halt.injEq] at h3;rw[h3.1.1];exact h2.1
   cases x with
   |panic v=>
    obtain⟨_,e3⟩:=ou h;simp only[GStep.go.injEq] at e3;obtain⟨rfl,_,_⟩:=e3;exact hnd (JL hall)
   |stuck t=>
    obtain⟨_,e3⟩:=ou h
    cases e3
   |unsupported t=>
    obtain⟨_,e3⟩:=ou h
    cases t with
    |initOrder n=>
     simp only[early,G.ahead,G.noStep,Bool.not_true,Bool.false_eq_true,if_false] at e3
     cases e3
    |_=>cases e3
   |_=>exact hx
where
 finish_kind (fr:fR) (v:vL):(fr.finish v).kind=fr.kind:=by
  unfold Frame.finish
  split<;>rfl
 finish_mode (fr:fR) (v:vL):(fr.finish v).mode=fr.mode:=by
  unfold Frame.finish
  split<;>rfl
end
end
end Go.Tp
