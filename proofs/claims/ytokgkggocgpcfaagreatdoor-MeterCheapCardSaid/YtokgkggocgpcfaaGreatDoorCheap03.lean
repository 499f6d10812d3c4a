/- Part of a proof; no conditions. -/
import Derived.Test.YtokgkggocgpcfaaGreatDoorCheap02
open Std.Legacy.Range renaming forIn_eq_forIn_range'->Ad1
open Array renaming getElem?_eq_getElem->aG,all_eq_true_iff_forall_mem->Ae0,getElem?_replicate->Ae1,length_toList->Ae2,toList_modify->Ae3,toList_filter->Ae4,toList_append->Ae5,forIn_toList->Ad9,find?_toList->Ae6,append_empty->Ae7,toList_push->Ae8,all_toList->Ae9,toList_map->Afa,replicate->Afc,ext'->Afq
open List renaming mem_cons_of_mem->Rf,mem_cons_self->Aah,filter_cons->Afb,foldlM_cons->Aee,forIn_cons->Aei,find?_cons->Afe,all_cons->Afl,mem_cons->Ab3
open Go.Instr renaming keyThatStays->ny,takeDeferred->sU,sliceBounds->Aai,findAsking->Aao,sliceBound->Aam,beginRound->Aar,mapUpdate->Aa0,makeSlice->Aaz,enterLoop->Aa1,checkKey->Abf,sameBits->Aff,endRound->Abh,makeMap->Abv,findNow->Afi,sameNow->Afj,findKey->Abw,sliceAt->Abs,endLoop->Aby,lookup->Aca,range->Ac3,entry->Acz,next->Adi
open Bool renaming false_eq_true->kF,not_eq_true'->Aec,and_eq_true->Aal,or_eq_true->Afd,not_true->Afk
open Go.Conv renaming stringToBytes->Aab,bytesToString->Aad,runesToString->Aae
open Go.Builtin renaming clear_->Abj,min2->Aci,min_->Ack
open Go.GStep.go renaming injEq->Afg
open Go.CallKind renaming early->Afh
open Go.Op renaming eqGuardIn->Acb,equalIn->Adk,intBits->Adj,equal->Aew
open Go.Frame renaming finish->Afm,raise->Afn,enter->Ac9,round->Ada,oper?->Afo,eval->Afs,pos->Afw
open Go.GStep renaming after->Ac8,go->Adv
open Go.stepG renaming apply->Afp,oper->Aft,exec->Afu
open Go renaming Frame->fR,FuncId->fI,Program->pQ,TypeId->tI,Value->vL,World->wD,PanicEntry->Afr,Goroutine->Afv,exitTo->Afx,Event->Afy,Code->Afz
set_option maxRecDepth 100000
set_option maxHeartbeats 4000000
set_option linter.all false
namespace Go.Tp
variable {t:tI} {v v' x x' y y':vL} {R':Rl}
def mM(P:pQ)(F:fI->Bool)(K:Kd){α α':Type}(A:Rl->α->α'->Prop)(R:Rl)(s:Sem α)(s':Sem α'):Prop:=
 ∀m,R.le m->∀w u,WR P F K m w u->∀es a w1 p,s.runT P w es=(.ok a w1,p)->∀q,∃d a' u1 i,m.le d/\s'.runT P u q=(.ok a' u1,i)/\WR P F K d (w1.tp u1.tape u1.drawn noJ) u1/\A d a a'/\Fr m d u u1/\∀e∈i,e∈q\/EvR d e
section
variable {P:pQ} {F:fI->Bool} {K:Kd} {R:Rl} {α β α' β':Type}
def WR.same{w u:wD}(h:WR P F K R w u):w.tp u.tape u.drawn noJ=w:=by rw[<-h.tape,<-h.drawn,jP]
def WR.atd{w u:wD}(e:WR P F K R (w.tp u.tape u.drawn noJ) u)(d:Nat):WR P F K R (w.tp u.tape d noJ) {u with drawn:=d}:=
 ⟨λb i h=>⟨by have:=(e.dom b i h).1;simpa[iw]using this,(e.dom b i h).2⟩,e.fn,e.inj,λb i o h m=>e.objs b i o h m,e.glob,rfl,rfl,by have:=e.bigW;simpa[iw]using this,e.bigU⟩
def aY{A:Rl->α->α'->Prop}{s:Sem α}{s':Sem α'}(h:Sim P F K A R s s'):mM P F K A R s s':=by intro m C w u G es a w1 e E J;obtain⟨p,a',u1,i,H,q,d,D,r,L⟩:=h m C w u G es a w1 e E J;exact⟨p,a',u1,i,H,q,by rw[d.same];exact d,D,r,L⟩
def zX{A:Rl->α->α'->Prop}{s:Sem α}(h:fJ P s)(s':Sem α'):mM P F K A R s s':=aY (ay h s')
def zY{A:Rl->α->α'->Prop}{B:Rl->β->β'->Prop}{s:Sem α}{s':Sem α'}{f:α->Sem β}{f':α'->Sem β'}(h:Sim P F K A R s s')(V:∀d,R.le d->∀a a',A d a a'->mM P F K B d (f a) (f' a')):mM P F K B R (s >>=f) (s' >>=f'):=by
 intro d H w u W es b w1 m i X;rw[runT_bind]at i
 cases J:s.runT P w es with
 |mk r es2=>
  rw[J]at i
  cases r with
  |halt x w2=>cases i
  |ok a w2=>
   obtain⟨G,a',u1,q,L,e1,D,T,Q,Y⟩:=h d H w u W es a w2 es2 J X;obtain⟨N,O,u2,C,M,e2,E,p,S,Z⟩:=V G (H.trans L) a a' T G (.refl _) w2 u1 D es2 b w1 m i q;refine⟨N,O,u2,C,L.trans M,?_,E,p,Q.trans S,λe U=>?_⟩
   ·grind [runT_bind]
   rcases Z e U with x|x
   ·exact(Y e x).imp id (·.mono M)
   exact .inr x
def VJ{A:Rl->α->α'->Prop}{B:Rl->β->β'->Prop}{s:Sem α}{s':Sem α'}{f:α->β}{f':α'->β'}(h:mM P F K A R s s')(J:∀d,R.le d->∀a a',A d a a'->B d (f a) (f' a')):mM P F K B R (s >>= λa=>pure (f a)) (s' >>= λa=>pure (f' a)):=by
 intro d C w u L es b w1 i e M;rw[runT_bind]at e
 cases D:s.runT P w es with
 |mk r es2=>
  rw[D]at e
  cases r with
  |halt x w2=>cases e
  |ok a w2=>
   cases e
   obtain⟨q,a',u1,m,E,O,p,H,G,N⟩:=h d C w u L es a w1 i D M;refine⟨q,f' a',u1,m,E,?_,p,J q (C.trans E) _ _ H,G,N⟩
   simp_all
def VL(t:tI):Sim P F K (λR v v'=>VR F R v v') R (Abv t none) (Abv t none):=by unfold Abv;refine ah (tH λ_ _=>.map 0 rfl λi e p h=>by simp at h) λm _ n q hn=>?_;exact ak λ_ d=>.map (d.rel _ _ hn.1)
theorem zZ:∀(d:Nat) (q:Nat) (b:Bool) (t:tI),fD P d t=true->∀(R:Rl) {x x':vL},VR F R x x'->Sim P F K (λ_ _ _=>True) R (Abf b q t x) (Abf b q t x')
 |0,_,_,_,h,_,_,_,_=>by cases h
 |d+1,0,_,t,h,R,x,x',hx=>ay (au _) _
 |d+1,q+1,bb,t,h,R,x,x',hx=>by
  unfold Abf;refine ah (bV t) λS N L M D=>?_;obtain⟨rfl,D⟩:=D;unfold fD at h;rw[D]at h;have p:=hx.mono N
  cases L with
  |int k=>cases p<;>exact ak λ_ _=>trivial
  |string=>exact ak λ_ _=>trivial
  |bool=>cases p<;>exact ak λ_ _=>trivial
  |array n e=>
   dsimp only at h
   cases p with
   |agg x1 x2=>
    dsimp only;refine ah (A:=λ_ (a a':PUnit)=>a=a') ?_ λ_ _ _ _ _=>ak λ_ _=>trivial;rw[Ad1,Ad1];refine xI (λH C i _ b=>?_) _;refine ah (jG e) λT h2 m V O=>?_;obtain rfl:=O;refine ah (tV (VRs.mono (C.trans h2) ⟨x1,x2⟩) e _) λr h4 u Q G=>?_;refine ah (zZ d q bb e h r G) λJ h5 _ _ _=>?_
    grind [ak]
   |_=>exact ay (au _) _
  |struct fs=>
   dsimp only at h
   cases p with
   |agg x1 x2=>
    dsimp only;refine ah (A:=λ_ (a a':PUnit)=>a=a') ?_ λ_ _ _ _ _=>ak λ_ _=>trivial;rw[<-Ad9,<-Ad9];refine xI (λH C f U b=>?_) _;have E:fD P d f.type=true:=by grind [Ae0]
    split
    ·refine ah (tV (VRs.mono C ⟨x1,x2⟩) f.type _) λr h4 u Q G=>?_;refine ah (zZ d q bb f.type E r G) λJ h5 _ _ _=>?_
     grind [ak]
    grind [ak]
   |_=>exact ay (au _) _
  |_=>cases h
inductive ERl (F:fI->Bool) (R:Rl):List MapEntry->List MapEntry->Prop
 |nil:ERl F R [] []
 |cons {e e':MapEntry} {l l':List MapEntry}:jZ F R e e'->ERl F R l l'->ERl F R (e::l) (e'::l')
theorem jZ.mono(h:R.le R'){e d:MapEntry}(x:jZ F R e d):jZ F R' e d:=⟨x.key.mono h,x.val.mono h,x.born⟩
theorem ERl.mono(h:R.le R'){l l':List MapEntry}(x:ERl F R l l'):ERl F R' l l':=by
 induction x with
 |nil=>exact .nil
 |cons hv _ ih=>exact .cons (hv.mono h) ih
theorem ERl.of:∀{l l':List MapEntry},l.length=l'.length->(∀(i:Nat) (v v':MapEntry),l[i]? =some v->l'[i]? =some v'->jZ F R v v')->ERl F R l l'
 |[],[],_,_=>.nil
 |[],_::_,h,_=>by cases h
 |_::_,[],h,_=>by cases h
 |v::l,v'::l',h,hg=>.cons (hg 0 _ _ rfl rfl) (ERl.of (by grind) λi x x' d h2=>hg (i+1) x x' (by grind) (by grind))
inductive Aa (F:fI->Bool) (R:Rl):Option (Nat×vL)->Option (Nat×vL)->Prop
 |none:Aa F R none none
 |some (i:Nat) {v v':vL}:VR F R v v'->Aa F R (some (i,v)) (some (i,v'))
theorem Ea{t:tI}(m:fD P 8 t=true):∀{l l':List MapEntry} {R:Rl} {k k':vL} (i:Nat),VR F R k k'->ERl F R l l'->Sim P F K (λR x x'=>Aa F R x x') R (Aao t k l i) (Aao t k' l' i)
 |[],_,R,k,k',i,hk,h=>by cases h;exact ak λ_ _=>.none
 |e::l,_,R,k,k',i,hk,h=>by
  cases h with
  |cons he hl=>
   unfold Aao;refine ah (zV 8 _ t m R hk he.key) λq d b r p=>?_;obtain rfl:=p
   split
   ·exact ak λ_ h2=>.some _ ((he.val.mono d).mono h2)
   exact Ea m (i+1) (hk.mono d) (hl.mono d)
def keyS(P:pQ)(t:tI):Bool:=fD P 8 t&&(match P.underlying t with|some (.struct _)|some (.array ..)|some (.int _)=>true|_=>false)
def JW{d:TypeDesc}(h:P.underlying t=some d)(w:wD)(es:Array Afy):(underlying t).runT P w es=(.ok d w,es):=by
 unfold underlying
 simp_all
theorem VN{d:IntKind}(h:P.underlying t=some (.int d))(k:IntKind)(a b:Int)(w:wD)(es:Array Afy):(Aew t (.int k a) (.int k b)).runT P w es=(.ok (a==b) w,es):=by
 show (Adk (9999+1) t _ _).runT P w es=_
 unfold Adk;rw[runT_bind,JW h]
 simp_all
theorem JX{t:tI}{d:IntKind}(h:P.underlying t=some (.int d))(k:vL):∀(l:List MapEntry) (i:Nat) (r:Option (Nat×vL)),Afi (.int d) k l i=some r->∀(w:wD) (es:Array Afy),(Aao t k l i).runT P w es=(.ok r w,es)
 |[],i,r,e,w,es=>by
  unfold Afi at e
  cases e
  rfl
 |x::l,i,r,e,w,es=>by
  unfold Afi at e;unfold Aao;rw[runT_bind];have p:∃b,Afj (.int d) k x.key=some b/\(Aew t k x.key).runT P w es=(.ok b w,es):=by
   cases m:Afj (.int d) k x.key with
   |none=>rw[m]at e;cases e
   |some b=>
    refine⟨b,rfl,?_⟩;unfold Afj at m
    split at m<;>first|(cases m;done)|(rename_i q _;cases q;done)|skip
    ·rename_i G a H D A C
     split at m
     ·rename_i E
      grind [VN]
     cases m
  obtain⟨b,A,C⟩:=p;rw[A]at e;rw[C]
  cases b with
  |true=>simp_all
  |false=>dsimp only at e⊢;exact JX h k l (i+1) r e w es
def JY{d:IntKind}(h:P.underlying t=some (.int d))(k:vL)(l:List MapEntry)(w:wD)(es:Array Afy):(Abw t k l).runT P w es=(Aao t k l).runT P w es:=by
 unfold Abw;rw[runT_bind,JW h];dsimp only
 cases hn:Afi (.int d) k l 0 with
 |none=>rfl
 |some r=>rw[JX h k l 0 r hn];rfl
def JZ(r:keyS P t=true){es i:Array MapEntry}{k k':vL}(h:VR F R k k')(he:ERl F R es.toList i.toList):Sim P F K (λR x x'=>Aa F R x x') R (Abw t k es.toList) (Abw t k' i.toList):=by
 simp only[keyS,Aal]at r;obtain⟨D,r⟩:=r;by_cases q:∃d,P.underlying t=some (.int d)
 ·obtain⟨d,p⟩:=q;intro A H w u J s x w1 L E M;rw[JY p]at E;rw[JY p];exact Ea D 0 h he A H w u J s x w1 L E M
 unfold Abw;refine ah (bV t) λA C d N p=>?_;obtain⟨rfl,p⟩:=p;rw[p]at r;have m:=he.mono C;generalize es.toList=l at m;generalize i.toList=l' at m
 cases m with
 |nil=>exact ak λ_ _=>.none
 | @cons e e' l l' h3 h4=>
  have G:∀(k:vL) (e:MapEntry) (l:List MapEntry),Afi d k (e::l) 0=none:=λk e l=>by grind [Afi,Afj]
  rw[G,G];exact Ea D 0 (h.mono C) (.cons h3 h4)
def VO{kt H:tI}(ht:P.underlying t=some (.map kt H))(M:keyS P kt=true)(hz:mG P F H)(h:VR F R v v')(hx:VR F R x x')(c:Bool):Sim P F K (λR v v'=>VR F R v v') R (Aca t v x c) (Aca t v' x' c):=by
 have h8:fD P 8 kt=true:=by simp only[keyS,Aal]at M;exact M.1
 unfold Aca;refine ah (bV t) λW S d d' J=>?_;obtain⟨rfl,J⟩:=J;rw[ht]at J
 cases J
 dsimp only;have D:∀m,W.le m->∀es e:Array MapEntry,ERl F m es.toList e.toList->Sim P F K (λR v v'=>VR F R v v') m
  (do
   Abf es.isEmpty 10000 kt x
   let (v,ok) <-match <-Abw kt x es.toList with
    |some (_,v)=>pure (v,true)
    |none=>pure (<-zeroValue H,false)
   pure (if c then .tuple #[v,.bool ok]else v))
  (do
   Abf e.isEmpty 10000 kt x'
   let (v,ok) <-match <-Abw kt x' e.toList with
    |some (_,v)=>pure (v,true)
    |none=>pure (<-zeroValue H,false)
   pure (if c then .tuple #[v,.bool ok]else v)):=by
  intro m h2 es e L;have q:es.isEmpty=e.isEmpty:=by
   have:es.toList.isEmpty=e.toList.isEmpty:=by generalize es.toList=l at L;generalize e.toList=l' at L;cases L<;>rfl
   grind
  rw[q];have C:=hx.mono (S.trans h2);refine ah (zZ 8 _ _ kt h8 m C) λR3 T _ _ _=>?_;refine ah (JZ M (C.mono T) (L.mono T)) λR4 h4 y y' hy=>?_;have Y:∀G,∀(v v':vL) (b:Bool),VR F G v v'->Sim P F K (λR v v'=>VR F R v v') G (pure (if c then .tuple #[v,.bool b]else v)) (pure (if c then .tuple #[v',.bool b]else v')):=λG v v' b O=>by
   refine ak λX h6=>?_
   split
   ·exact .tuple rfl (VRs.push (VRs.one (O.mono h6)) (.bool _)).get
   exact O.mono h6
  cases hy with
  |some i O=>grind
  |none=>
   refine ah (tJ hz) λG h5 z z' Q=>?_;refine ah (A:=λR p E=>VR F R p.1 E.1/\p.2=E.2) (ak λ_ hl=>⟨Q.1.mono hl,rfl⟩) λX h6 p E V=>?_;obtain⟨p,b⟩:=p;obtain⟨E,b'⟩:=E;obtain⟨V,rfl⟩:=V
   grind
 have Z:=h.mono S
 cases Z with
 |nilMap=>exact ah (A:=λR es e=>ERl F R es.toList e.toList) (ak λ_ _=>.nil) D
 | @map r r' hr=>
  refine ah (lQ hr) λm h2 o o' N=>?_
  rcases N with⟨N,U⟩|⟨a,a',l,rfl,rfl,_⟩
  ·cases N with
   |map k e1 e2=>grind [ah,ak,ERl.mono,ERl.of]
   |_=>exact ay (dB (au _)) _
  exact ay (dB (au _)) _
 |_=>exact ay (dB (au _)) _
def bytes_eq{a b:ByteArray}(h:(a==b)=true):a=b:=by
 cases a;cases b
 have:(_==_)=true:=h
 congr 1
 exact eq_of_beq h
theorem Ad:∀(n:Nat) (a b:vL),Aff n a b=true->a=b
 |0,a,b,h=>by
  cases a<;>cases b<;>first
   |(simp[Aff]at h;done)
   |rfl
   |(rename_i s p;rw[bytes_eq (a:=s) (b:=p) h];done)
   |(simp[Aff]at h;subst h;rfl)
   |(simp[Aff]at h;obtain⟨d,h2⟩:=h;subst d h2;rfl)
   |(simp[Aff]at h;obtain⟨⟨d,h2⟩,i⟩:=h;subst d h2 i;rfl)
 |n+1,a,b,h=>by
  have e:∀(l l':List vL),l.length=l'.length->((l.zip l').all λ(x,y)=>Aff n x y)=true->l=l':=by
   intro l
   induction l with
   |nil=>intro l' h _;cases l' with
    |nil=>rfl
    |cons _ _=>cases h
   |cons x l ih=>
    intro l' q m
    cases l' with
    |nil=>cases q
    |cons y l'=>simp only[List.zip_cons_cons,Afl,Aal]at m;rw[Ad n x y m.1,ih l' (by simpa using q) m.2]
  cases a<;>cases b<;>first
   |(simp[Aff]at h;done)
   |rfl
   |(rename_i s p;rw[bytes_eq (a:=s) (b:=p) h];done)
   |(rename_i c r
     simp only[Aff,Aal,beq_iff_eq]at h;have:=e c.toList r.toList (by simpa using h.1) h.2;rw[Afq this]
     done)
   |(rename_i t v A v'
     simp only[Aff,Aal,beq_iff_eq]at h;rw[h.1,Ad n v v' h.2]
     done)
   |(simp[Aff]at h;subst h;rfl)
   |(simp[Aff]at h;obtain⟨d,h2⟩:=h;subst d h2;rfl)
   |(simp[Aff]at h;obtain⟨⟨d,h2⟩,i⟩:=h;subst d h2 i;rfl)
theorem J3(r:Nat)(x:Obj)(w:wD)(d:Nat)(es:Array Afy):(setObj r x).runT P {w with drawn:=d} es=match (setObj r x).runT P w es with|(.ok a w1,e)=>(.ok a {w1 with drawn:=d},e)|(.halt h w1,e)=>(.halt h {w1 with drawn:=d},e):=by
 simp only[setObj,Sem.runT]
 split<;>rfl
def J4(old new:vL)(w:wD)(es:Array Afy):∃c d,(ny old new).runT P w es=(.ok (if c=0 then new else old) {w with drawn:=d},es)/\(c≠0->Aff 10000 old new=false)/\(Aff 10000 old new=false->c=Question.cut (.extern "map.whichKeyStays" 2) (w.tape w.drawn (.extern "map.whichKeyStays" 2))):=by
 unfold ny
 cases h:Aff 10000 old new with
 |true=>exact⟨0,w.drawn,by simp[pure],yW,yW⟩
 |false=>
  refine⟨Question.cut (.extern "map.whichKeyStays" 2) (w.tape w.drawn (.extern "map.whichKeyStays" 2)),w.drawn+1,?_,λ_=>rfl,λ_=>rfl⟩;rw[if_neg yW,runT_bind];have:(choose (.extern "map.whichKeyStays" 2)).runT P w es=(.ok (Question.cut (.extern "map.whichKeyStays" 2) (w.tape w.drawn (.extern "map.whichKeyStays" 2))) {w with drawn:=w.drawn+1},es):=by simp only[choose,Sem.runT];rw[if_neg zE]
  rw[this];rfl
def VP{r C:Nat}(h:R.rel r C)(Q:R.own C){old i new e:vL}(O:VR F R old i)(N:VR F R new e)(o H:vL->Obj)(ho:∀k k',VR F R k k'->OwR F K R (o k) (H k')):
 mM P F K (λ_ _ _=>True) R (do let k <-ny old new;setObj r (o k)) (do let k <-ny i e;setObj C (H k)):=by
 intro T hR w u G es a w1 Z p S;obtain⟨c,d,V,e2,Y⟩:=J4 (P:=P) old new w es;obtain⟨L,M,W,X,D⟩:=J4 (P:=P) i e u S;have hk:VR F R (if c=0 then new else old) (if L=0 then e else i):=by
  by_cases hs:Aff 10000 old new=true
  ·grind [Ad]
  by_cases aa:Aff 10000 i e=true
  ·grind [Ad]
  have x:=Y (by grind);have x':=D (by grind);rw[G.tape,G.drawn,<-x']at x
  grind
 have A:Sim P F K (λ_ _ _=>True) R (setObj r (o (if c=0 then new else old))) (setObj C (H (if L=0 then e else i))):=by grind [lT]
 rw[runT_bind,V]at p;simp only at p;rw[J3]at p
 cases m:(setObj r (o (if c=0 then new else old))).runT P w es with
 |mk x es2=>
  rw[m]at p
  cases x with
  |halt y w2=>cases p
  |ok y w2=>
   simp only[Prod.mk.injEq,Result.ok.injEq]at p;obtain⟨⟨_,rfl⟩,rfl⟩:=p;obtain⟨U,a',u1,J,l1,f1,E,f3,q,f5⟩:=A T hR w u G es y w2 es2 m S;refine⟨U,a',{u1 with drawn:=M},J,l1,?_,?_,f3,⟨q.size,q.keep,q.own,q.new,q.same,q.ch⟩,f5⟩
   ·grind [runT_bind,J3]
   rw[<-E.same]at E;exact E.atd M
theorem ERl.modify{l l':List MapEntry}(h:ERl F R l l')(i:Nat){f f':MapEntry->MapEntry}(m:∀e d,jZ F R e d->jZ F R (f e) (f' d)):ERl F R (l.modify i f) (l'.modify i f'):=by
 induction h generalizing i with
 |nil=>cases i<;>exact .nil
 |cons he hl ih=>
  cases i with
  |zero=>exact .cons (m _ _ he) hl
  |succ i=>exact .cons he (ih i)
def ERl.append{l l':List MapEntry}(h:ERl F R l l'){e d:MapEntry}(he:jZ F R e d):ERl F R (l++[e]) (l'++[d]):=by
 induction h with
 |nil=>exact .cons he .nil
 |cons h _ ih=>exact .cons h ih
theorem ERl.length{l l':List MapEntry}(h:ERl F R l l'):l.length=l'.length:=by
 induction h with
 |nil=>rfl
 |cons _ _ ih=>simp[ih]
def ERl.get{l l':List MapEntry}(h:ERl F R l l'):∀(i:Nat) (v v':MapEntry),l[i]? =some v->l'[i]? =some v'->jZ F R v v':=by
 induction h with
 |nil=>intro i v v' h;simp at h
 |cons hv _ ih=>grind
def Eb{es d:Array MapEntry}(h:ERl F R es.toList d.toList)(k:Nat):OwR F K R (.map es k) (.map d k):=
 .map k (by simpa using h.length) λi e m a b=>h.get i e m (by grind) (by grind)
def ERl.keyAt{es d:Array MapEntry}(h:ERl F R es.toList d.toList){k k':vL}(q:VR F R k k')(i:Nat):VR F R (((es[i]?).map (·.key)).getD k) (((d[i]?).map (·.key)).getD k'):=by
 have p:=h.length;simp only[Ae2]at p;by_cases m:i<es.size
 ·have e:i<d.size:=p▸m;rw[aG m,aG e];exact(h.get i _ _ (by simp[m]) (by simp[e])).key
 grind
def VQ{kt T:tI}(X:P.underlying t=some (.map kt T))(N:keyS P kt=true)(h:VR F R v v')(hx:VR F R x x')(Y:VR F R y y'):mM P F K (λ_ _ _=>True) R (Aa0 t v x y) (Aa0 t v' x' y'):=by
 have V:fD P 8 kt=true:=by simp only[keyS,Aal]at N;exact N.1
 unfold Aa0;refine zY (bV t) λR1 L d d' J=>?_;obtain⟨rfl,J⟩:=J;rw[X]at J
 cases J
 dsimp only;have U:=h.mono L
 cases U with
 |nilMap=>exact zX (jf _) _
 | @map r r' hr=>
  dsimp only;refine zY (lQ hr) λQ h2 o o' O=>?_
  rcases O with⟨O,E⟩|⟨a,a',l,rfl,rfl,_⟩
  ·cases O with
   | @map es es' k e1 e2=>
    dsimp only;have S:ERl F Q es.toList es'.toList:=by grind [ERl.of]
    have A:=hx.mono (L.trans h2);refine zY (zZ 8 _ _ kt V Q A) λR3 m _ _ _=>?_;refine zY (JZ N (A.mono m) (S.mono m)) λR4 h4 z z' Z=>?_;have C:=A.mono (m.trans h4);have p:=S.mono (m.trans h4);have H:=Y.mono (L.trans (h2.trans (m.trans h4)));have G:=(h2.trans (m.trans h4)).rel _ _ hr;have D:=(m.trans h4).own _ E
    cases Z with
    |some i hv=>refine VP G D (p.keyAt C i) C _ _ λq q' W=>Eb ?_ k;rw[Ae3,Ae3];exact p.modify i λe e' M=>⟨W,H,M.born⟩
    |none=>refine aY (lT G D (Eb ?_ _));rw[Ae8,Ae8];exact p.append ⟨C,H,rfl⟩
   |_=>exact zX (au _) _
  exact zX (au _) _
 |_=>exact zX (au _) _
end
section
variable {P:pQ} {F:fI->Bool} {K:Kd} {R:Rl}
def vF(P:pQ)(o:BinOp)(t:tI):Bool:=match o with
 |.and|.xor|.shl|.shr=>(match P.underlying t with|some (.int _)=>true|_=>false)
 |.eql|.neq=>(match P.underlying t with|some .string|some (.slice _)=>true|_=>false)&& !P.eqGuardType P.depth t
 |_=>false
def flat(P:pQ)(t:tI):Prop:=P.underlying t=some .string\/∃e,P.underlying t=some (.slice e)
def J5(m:flat P t)(hx:VR F R x x')(p:VR F R y y'):Sim P F K (λ_ b q=>b=q) R (Aew t x y) (Aew t x' y'):=by
 show Sim P F K _ R (Adk (9999+1) t x y) (Adk (9999+1) t x' y')
 unfold Adk;refine ah (bV t) λr C d A i=>?_;obtain⟨rfl,i⟩:=i
 rcases m with m|⟨e,m⟩<;>(rw[m]at i;cases i)
 ·cases hx<;>cases p<;>first
   |exact ay (au _) _
   |exact ak λ_ _=>rfl
 cases hx<;>cases p<;>first
  |exact ay (au _) _
  |exact ak λ_ _=>rfl
def vG(m:flat P t)(x y:vL)(i:x=.tuple #[]\/y=.tuple #[]):fJ P (Aew t x y):=by
 show fJ P (Adk (9999+1) t x y)
 unfold Adk;refine D7 λd p=>?_
 rcases m with m|⟨e,m⟩<;>(rw[m]at p;cases p)
 ·rcases i with rfl|rfl
  ·cases y<;>exact au _
  cases x<;>exact au _
 rcases i with rfl|rfl
 ·cases y<;>exact au _
 cases x with
 |slice a n c=>cases a<;>exact au _
 |_=>exact au _
def tY{o:BinOp}(d:vF P o t=true)(h:o=.eql\/o=.neq):flat P t/\P.eqGuardType P.depth t=false:=by
 rcases h with rfl|rfl<;>
  (simp only[vF,Aal,Aec]at d
   refine⟨?_,d.2⟩;have e:=d.1
   split at e<;>first|exact .inl ‹_› |exact .inr ⟨_,‹_›⟩|cases e)
def VT{o:BinOp}(m:vF P o t=true)(x y:vL)(d:x=.tuple #[]\/y=.tuple #[]):fJ P (binOp o t x y):=by
 have e:=d
 cases o with
 |and|xor|shl|shr=>
  rcases d with rfl|rfl
  ·cases y with
   |pointer a=>cases a<;>exact au _
   |_=>exact au _
  cases x with
  |pointer a=>cases a<;>exact au _
  |_=>exact au _
 |eql|neq=>
  have i:=(tY m yW).1
  rcases d with rfl|rfl
  ·cases y<;>exact dB (vG i _ _ e)
  cases x<;>exact dB (vG i _ _ e)
 |_=>cases m
def VU{d':Nat}(i:flat P t):Sim P F K (λ_ b m=>b=false/\m=false) R (Acb d' t .nilIface .nilIface) (Acb d' t .nilIface .nilIface):=by
 cases d' with
 |zero=>exact ay (au _) _
 |succ d'=>
  unfold Acb;refine ah (bV t) λq A r p d=>?_;obtain⟨rfl,d⟩:=d
  rcases i with i|⟨e,i⟩<;>(rw[i]at d;cases d;exact ak λ_ _=>⟨rfl,rfl⟩)
def VW{o:BinOp}(d:vF P o t=true)(p q:Operand)(hx:VR F R x x')(E:VR F R y y')(G:x≠.tuple #[])(H:y≠.tuple #[]):Sim P F K (λ_ _ _=>True) R (eqGuard o t p q x y) (eqGuard o t p q x' y'):=by
 have e:flat P t->P.eqGuardType P.depth t=false->Sim P F K (λ_ _ _=>True) R (eqGuard .eql t p q x y) (eqGuard .eql t p q x' y'):=λC D=>by
  unfold eqGuard;simp only[Afk,kF,if_false]
  cases hx<;>cases E<;>first
   |exact absurd rfl G
   |exact absurd rfl H
   |exact ak λ_ _=>trivial
   |(refine ah lN λA _ p M m=>?_
     refine ah lN λJ _ q N r=>?_;rw[m.1,m.2,r.1,r.2,D];exact ak λ_ _=>trivial)
   |(dsimp only
     (repeat' split)<;>first
      |exact ak λ_ _=>trivial
      |(refine ah (VU C) λA _ b L i=>?_
        rw[i.1,i.2];exact ak λ_ _=>trivial))
 cases o with
 |eql=>exact e (tY d (.inl rfl)).1 (tY d (.inl rfl)).2
 |neq=>exact e (tY d (.inr rfl)).1 (tY d (.inr rfl)).2
 |_=>exact ak λ_ _=>trivial
def VX(o:BinOp)(k:IntKind)(x y:Int):Sim P F K (λR v v'=>VR F R v v') R (Adj o k x y) (Adj o k x y):=by
 unfold Adj
 cases o<;>first|exact ak λ_ _=>.int _ _|exact ay (au _) _
def VY(o:BinOp)(k:IntKind)(x:Int)(d:IntKind)(y:Int):Sim P F K (λR v v'=>VR F R v v') R (Op.shift o k x d y) (Op.shift o k x d y):=by
 unfold Op.shift
 split
 ·grind [ay,jf]
 cases o<;>first|exact ak λ_ _=>.int _ _|exact ay (au _) _
def VZ{o:BinOp}(C:vF P o t=true)(hx:VR F R x x')(e:VR F R y y'):Sim P F K (λR v v'=>VR F R v v') R (binOp o t x y) (binOp o t x' y'):=by
 have G:∀{x x' y y':vL},flat P t->VR F R x x'->VR F R y y'->Sim P F K (λR v v'=>VR F R v v') R (do pure (.bool (<-Aew t x y))) (do pure (.bool (<-Aew t x' y'))):=λh hx e=>by refine ah (J5 h hx e) λD _ b E A=>?_;obtain rfl:=A;exact ak λ_ _=>.bool _
 have H:∀{x x' y y':vL},flat P t->VR F R x x'->VR F R y y'->Sim P F K (λR v v'=>VR F R v v') R (do pure (.bool (!(<-Aew t x y)))) (do pure (.bool (!(<-Aew t x' y')))):=λh hx e=>by refine ah (J5 h hx e) λD _ b E A=>?_;obtain rfl:=A;exact ak λ_ _=>.bool _
 have r:∀{a a':Addr},AR R a a'->∀(k:IntKind) (n:Int),Sim P F K (λR v v'=>VR F R v v') R (do Op.addrMod k (<-behindNumber a).1 n) (do Op.addrMod k (<-behindNumber a').1 n):=λJ k n=>ah (pV J) λD N z O M=>JM k M.1 n
 have d:∀(c:Prop) [Decidable c] (m:String) (s:Sem vL),Sim P F K (λR v v'=>VR F R v v') R s s->Sim P F K (λR v v'=>VR F R v v') R (if c then stuck m else s) (if c then stuck m else s):=λc _ m s L=>by
  split
  ·exact fH _ _
  exact L
 cases o with
 |and|xor|shl|shr=>
  cases hx<;>cases e<;>first
   |exact ay (au _) _
   |exact d _ _ _ (VX _ _ _ _)
   |(unfold binOp;exact VY _ _ _ _ _)
   |exact d _ _ _ (tX _ _ _ _)
   |(unfold binOp;exact mJ _ _ _)
   |(refine r ?_ _ _;assumption)
 |eql=>
  have i:=(tY C (.inl rfl)).1;have p:=hx;have q:=e
  cases hx<;>cases e<;>first
   |exact G i p q
   |exact ay (dB (vG i _ _ (.inr rfl))) _
   |exact ay (dB (vG i _ _ (.inl rfl))) _
   |exact d _ _ _ (xG _ _ _)
   |exact d _ _ _ (tX _ _ _ _)
   |(unfold binOp;exact mJ _ _ _)
 |neq=>
  have i:=(tY C (.inr rfl)).1;have p:=hx;have q:=e
  cases hx<;>cases e<;>first
   |exact H i p q
   |exact ay (dB (vG i _ _ (.inr rfl))) _
   |exact ay (dB (vG i _ _ (.inl rfl))) _
   |exact d _ _ _ (xG _ _ _)
   |exact d _ _ _ (tX _ _ _ _)
   |(unfold binOp;exact mJ _ _ _)
 |_=>cases C
def V4(T:∀e,P.underlying t=some (.slice e)->mG P F e)(h:VR F R v v')(hx:VR F R x x'):Sim P F K (λR v v'=>VR F R v v') R (Aaz t v x) (Aaz t v' x'):=by
 unfold Aaz;refine ah (bV t) λU J d Z E=>?_;obtain⟨rfl,E⟩:=E
 cases d with
 |slice elem=>
  dsimp only;refine ah (zU (h.mono J)) λV h2 n n' hn=>?_;obtain rfl:=hn;refine ah (zU (hx.mono (J.trans h2))) λW h3 m m' O=>?_;obtain rfl:=O;refine ah (rD elem) λX h4 i i' N=>?_;obtain⟨rfl,_⟩:=N
  split
  ·grind [ay,dB,jf,pU]
  refine ah (JU _) λY h5 _ _ _=>?_
  refine ah (jG elem) λM h6 s s' Q=>?_;obtain rfl:=Q;have r:∀C,M.le C->∀z q:Array vL,VRs F C z q->∀(k l c:Nat),Sim P F K (λR v v'=>VR F R v v') C
   (do let a <-newRow elem ((Array.range k).map λi=>z[i % z.size]!);pure (.slice (some a) l c)) (do let a <-newRow elem ((Array.range k).map λi=>q[i % q.size]!);pure (.slice (some a) l c)):=λC D z q p k l c=>by
   refine ah (zS (zW p k) elem) λH L y y' S=>?_;exact ak λ_ G=>.slice _ _ (S.mono G)
  split
  ·exact ah (A:=λR z q=>VRs F R z q) (ak λ_ _=>VRs.nil) λC D z q p=>r C D z q p _ _ _
  refine ah (tJ (T elem E)) λC D z q p=>?_
  exact ah (A:=λR z q=>VRs F R z q) (ak λ_ G=>(p.1.mono G).cells) λH L z q p=>r H (D.trans L) z q p _ _ _
 |_=>exact ay (au _) _
def Ec(h:VR F R v v')(y:Nat)(c:BoundsCode):Sim P F K (λ_ x x'=>x=x') R (Aam v y c) (Aam v' y c):=by
 unfold Aam;refine ah (zT h) λd e x x' hx=>?_
 grind [ak,ay,xF]
inductive oH (F:fI->Bool) (R:Rl):Option vL->Option vL->Prop
 |none:oH F R none none
 |some {v v':vL}:VR F R v v'->oH F R (some v) (some v')
theorem oH.mono(h:R.le R'){o d:Option vL}(x:oH F R o d):oH F R' o d:=by
 cases x with
 |none=>exact .none
 |some hv=>exact .some (hv.mono h)
def J6(b:Bool)(n c:Nat){D i A d:Option vL}(C:oH F R D i)(G:oH F R A d):Sim P F K (λ_ x x'=>x=x') R (Aai b n c D A none) (Aai b n c i d none):=by
 unfold Aai;have p:∀(R:Rl) (m h:Nat) {v v':vL},VR F R v v'->Sim P F K (λ_ (x x':Nat×Nat×Nat)=>x=x') R
  (Aam v h .sliceB >>= λl=>pure (l,h,m)) (Aam v' h .sliceB >>= λl=>pure (l,h,m)):=λR m h v v' q=>by
  refine ah (Ec q _ _) λH J l l' e=>?_
  grind [ak]
 cases G with
 |none=>
  cases C with
  |none=>exact ak λ_ _=>rfl
  |some hw=>exact p R c n hw
 | @some v v' q=>
  cases C with
  |none=>
   show Sim P F K _ R (Aam v c _ >>= λh=>pure (0,h,c)) (Aam v' c _ >>= λh=>pure (0,h,c))
   refine ah (Ec q _ _) λr h2 h E e=>?_
   grind [ak]
  | @some x x' hw=>
   show Sim P F K _ R (Aam v c _ >>= λh=>Aam x h .sliceB >>= λl=>pure (l,h,c)) (Aam v' c _ >>= λh=>Aam x' h .sliceB >>= λl=>pure (l,h,c))
   refine ah (Ec q _ _) λr h2 h E e=>?_;obtain rfl:=e;exact p r c h (hw.mono h2)
def V5(C:∃e,P.underlying t=some (.slice e))(h:VR F R v v'){J A G p:Option vL}(H:oH F R J A)(E:oH F R G p):Sim P F K (λR v v'=>VR F R v v') R (Abs t v J G none) (Abs t v' A p none):=by
 obtain⟨e,C⟩:=C;unfold Abs;refine ah (bV t) λS O d N i=>?_;obtain⟨rfl,i⟩:=i;rw[C]at i
 cases i
 dsimp only;unfold Instr.slice;refine ah (bV t) λT h2 d N i=>?_;obtain⟨rfl,i⟩:=i;rw[C]at i
 cases i
 have r:=O.trans h2
 cases h with
 |nilSlice n c=>
  dsimp only;refine ah (J6 _ _ _ (H.mono r) (E.mono r)) λL D x x' e=>?_;obtain rfl:=e;obtain⟨l,h,m⟩:=x;refine ah (jG _) λM h4 s Q e=>?_;obtain rfl:=e;refine ak λ_ _=>?_;have:(if m=l then none else Option.map (λx:Addr=>x.add (l*s)) none)=none:=by split<;>rfl
  rw[this];exact .nilSlice _ _
 | @slice a a' n c ha=>
  dsimp only;refine ah (J6 _ _ _ (H.mono r) (E.mono r)) λL D x x' e=>?_;obtain rfl:=e;obtain⟨l,h,m⟩:=x;refine ah (jG _) λM h4 s Q e=>?_;obtain rfl:=e;refine ak λ_ h5=>?_;have q:=r.trans (D.trans (h4.trans h5));dsimp only
  split
  ·exact .slice _ _ (ha.mono q)
  exact .slice _ _ ((ha.mono q).add _)
 |_=>exact ay (au _) _
def V6{H:Array tI}(M:H[0]? =some t)(E:∃e,P.underlying t=some (.slice e)/\mG P F e)(J:tI)(h:VR F R v v'):Sim P F K (λR v v'=>VR F R v v') R (Abj H J #[v]) (Abj H J #[v']):=by
 obtain⟨e,E,N⟩:=E;have p:∀(R:Rl) {s G:Sem PUnit},Sim P F K (λ_ _ _=>True) R s G->Sim P F K (λR v v'=>VR F R v v') R (do s;pure (.tuple #[])) (do G;pure (.tuple #[])):=λR s G h=>ah h λL _ _ _ _=>ak λ_ _=>vr_closed0;unfold Abj;simp only[M,List.getElem?_toArray,List.getElem?_cons_zero];refine ah (bV t) λL C d O A=>?_;obtain⟨rfl,A⟩:=A;rw[E]at A
 cases A
 cases h with
 |nilSlice n c=>exact ak λ_ _=>vr_closed0
 | @slice a a' n c ha=>
  cases n with
  |zero=>exact ak λ_ _=>vr_closed0
  |succ n=>refine ah (tJ N) λr h2 z S m=>?_;obtain⟨m,rfl⟩:=m;exact p r (zO (ha.mono (C.trans h2)) _ _ 0 r (.refl _) (zW m.cells _).toList)
 |nilMap=>exact ak λ_ _=>vr_closed0
 |map hr=>
  refine ah (lQ (C.rel _ _ hr)) λr h2 o Q D=>?_
  rcases D with⟨D,q⟩|⟨a,a',l,rfl,rfl,_⟩
  ·cases D with
   |map _ _=>exact p r (lT (h2.rel _ _ (C.rel _ _ hr)) q (Eb .nil _))
   |_=>exact ay (dB (au _)) _
  exact ay (dB (au _)) _
 |_=>exact ay (dB (au _)) _
where
 vr_closed0 {R:Rl}:VR F R (.tuple #[]) (.tuple #[]):=.tuple rfl λi v v' h=>by simp at h
end
section
variable {P:pQ} {F:fI->Bool} {K:Kd} {R:Rl}
theorem V7(h:Array Obj)(o:Obj)(f:Obj->Obj):(h.push o).modify h.size f=h.push (f o):=by grind
def J7(t:tI)(c:Array vL)(n m:Nat)(w:wD)(es:Array Afy):
 (do let a <-newRow t c;markStringish a;pure (Value.slice (some a) n m):Sem vL).runT P w es=(.ok (.slice (some ⟨w.heap.size,0,none⟩) n m) {w with heap:=w.heap.push (.cells c t (c.size,c.size+1))},es):=by
 have d:(newRow t c).runT P w es=(.ok ⟨w.heap.size,0,none⟩ {w with heap:=w.heap.push (.cells c t)},es):=rfl;rw[runT_bind,d];dsimp only;have e:(markStringish ⟨w.heap.size,0,none⟩).runT P {w with heap:=w.heap.push (.cells c t)} es=(.ok () (World.freeze {w with heap:=w.heap.push (.cells c t)} ⟨w.heap.size,c.size,none⟩ 1),es):=by
  unfold markStringish;rw[runT_bind];have:(shape w.heap.size).runT P {w with heap:=w.heap.push (.cells c t)} es=(.ok (some (t,c.size)) {w with heap:=w.heap.push (.cells c t)},es):=by simp only[shape,Sem.runT,World.shape?,Array.getElem?_push_size]
  simp_all
 rw[runT_bind,e];dsimp only;have i:World.freeze {w with heap:=w.heap.push (.cells c t)} ⟨w.heap.size,c.size,none⟩ 1={w with heap:=w.heap.push (.cells c t (c.size,c.size+1))}:=by
  unfold World.freeze;rw[if_neg zE]
  grind [V7]
 rw[i];rfl
def V8{c i:Array vL}(h:VRs F R c i)(t:tI)(n m:Nat):Sim P F K (λR v v'=>VR F R v v') R (do let a <-newRow t c;markStringish a;pure (Value.slice (some a) n m)) (do let a <-newRow t i;markStringish a;pure (Value.slice (some a) n m)):=by
 intro d A w u D es x w1 r p q;rw[J7]at p
 cases p
 refine⟨d.put w.heap.size u.heap.size,_,_,q,d.le_put _ _,J7 t i n m u q,zM D (.cells ((h.mono A).mono (d.le_put _ _)) (λ_=>by rw[h.size]) λhn=>absurd (.inr rfl) hn),.slice _ _ (.mk _ _ (.inr ⟨rfl,rfl⟩)),zN _ _,λe C=>.inl C⟩
theorem V9(e:tI)(s:ByteArray):Sim P F K (λR v v'=>VR F R v v') R (Aab e s) (Aab e s):=by
 unfold Aab;refine ah (tC _) λd _ n m hn=>?_;obtain rfl:=hn;refine V8 ((JV s).appended ⟨yW,λi v v' a b=>?_⟩) e _ _;rw[Ae1]at a b
 split at a
 ·rw[if_pos ‹_›]at b
  cases a;cases b
  exact .int _ _
 cases a
theorem J8:∀{l l':List vL} {R:Rl} (s:ByteArray),VRl F R l l'->Sim P F K (λ_ x x'=>x=x') R
 (forIn l s (λc s=>do
  let .int .u8 n:=c|stuck "bytesToString: byte expected"
  pure (ForInStep.yield (s.push (UInt8.ofNat n.toNat)))))
 (forIn l' s (λc s=>do
  let .int .u8 n:=c|stuck "bytesToString: byte expected"
  pure (ForInStep.yield (s.push (UInt8.ofNat n.toNat)))))
 |[],_,R,s,h=>by cases h;exact ak λ_ _=>rfl
 |v::l,_,R,s,h=>by
  cases h with
  |cons hv hl=>
   rw[Aei,Aei]
   cases hv with
   |int k n=>
    cases k with
    |u8=>exact J8 _ hl
    |_=>exact ay (dB (au _)) _
   |_=>exact ay (dB (au _)) _
def Wh(h:VR F R v v'):Sim P F K (λR v v'=>VR F R v v') R (Aad v) (Aad v'):=by
 unfold Aad
 cases h with
 |nilSlice n c=>exact ak λ_ _=>.string _
 | @slice a a' n c ha=>dsimp only;refine ah (DX ha n) λd m x x' hx=>?_;simp only[<-Ad9];refine ah (J8 _ hx.toList) λi _ s p e=>?_;obtain rfl:=e;exact ak λ_ _=>.string _
 |_=>exact ay (au _) _
def vH(P:pQ)(t:tI):Bool:=match P.underlying t with
 |some (.slice e)=>(match P.underlying e with|some (.int .u8)=>true|_=>false)
 |_=>false
def J9(h:vH P t=true):∃e,P.underlying t=some (.slice e)/\P.underlying e=some (.int .u8):=by
 unfold vH at h
 grind
def Wi{s:tI}(q:P.underlying s=some .string)(m:vH P t=true)(h:VR F R v v'):Sim P F K (λR v v'=>VR F R v v') R (convert s t v) (convert s t v'):=by
 obtain⟨e,m,G⟩:=J9 m;unfold convert;refine ah (bV s) λr D d p i=>?_;obtain⟨rfl,i⟩:=i;rw[q]at i
 cases i
 refine ah (bV t) λA h2 d p i=>?_;obtain⟨rfl,i⟩:=i;rw[m]at i
 cases i
 cases h with
 |string b=>
  dsimp only;refine ah (bV e) λC E d p i=>?_
  grind [V9]
 |_=>exact ay (au _) _
def Wj{s:tI}(p:vH P s=true)(G:P.underlying t=some .string)(h:VR F R v v'):Sim P F K (λR v v'=>VR F R v v') R (convert s t v) (convert s t v'):=by
 obtain⟨e,p,r⟩:=J9 p;unfold convert;refine ah (bV s) λH C d q i=>?_;obtain⟨rfl,i⟩:=i;rw[p]at i
 cases i
 refine ah (bV t) λA h2 d q i=>?_;obtain⟨rfl,i⟩:=i;rw[G]at i
 cases i
 have m:∀{v v':vL},VR F R v v'->Sim P F K (λR v v'=>VR F R v v') A (do match <-underlying e with|.int .u8=>Aad v|.int .i32=>Aae v|_=>stuck "Convert: a slice of what to string?") (do match <-underlying e with|.int .u8=>Aad v'|.int .i32=>Aae v'|_=>stuck "Convert: a slice of what to string?"):=λh=>by
  refine ah (bV e) λJ D d q i=>?_;obtain⟨rfl,i⟩:=i;rw[r]at i
  cases i
  exact Wh (h.mono (C.trans (h2.trans D)))
 have E:=h
 cases h with
 |string b=>exact ak λ_ _=>.string _
 |int k n=>exact ak λ_ _=>.string _
 |poison p=>refine ay ?_ _;exact D7 λd i=>by rw[r]at i;cases i;exact au _
 |_=>exact m E
end
end Go.Tp
namespace Go.Tp
open Go.Conc Go.ConcN Go.RowKit
section
variable {P:pQ} {F:fI->Bool} {K:Kd} {R:Rl}
theorem ERl.filter{p:MapEntry->Bool}(i:∀e d,d.born=e.born->p d=p e){l l':List MapEntry}(h:ERl F R l l'):ERl F R (l.filter p) (l'.filter p):=by
 induction h with
 |nil=>exact .nil
 |cons he _ ih=>
  rw[Afb,Afb,i _ _ he.born]
  split
  ·exact .cons he ih
  exact ih
def ERl.filterA{p:MapEntry->Bool}(i:∀e d,d.born=e.born->p d=p e){l l':Array MapEntry}(h:ERl F R l.toList l'.toList):ERl F R (l.filter p).toList (l'.filter p).toList:=by rw[Ae4,Ae4];exact h.filter i
theorem ERl.all{p:MapEntry->Bool}(i:∀e d,d.born=e.born->p d=p e){l l':List MapEntry}(h:ERl F R l l'):l'.all p=l.all p:=by
 induction h with
 |nil=>rfl
 |cons he _ ih=>rw[Afl,Afl,i _ _ he.born,ih]
def ERl.app{l l' m d:List MapEntry}(h:ERl F R l l')(h2:ERl F R m d):ERl F R (l++m) (l'++d):=by
 induction h with
 |nil=>exact h2
 |cons he _ ih=>exact .cons he ih
def ERl.empty{es d:Array MapEntry}(h:ERl F R es.toList d.toList):d.isEmpty=es.isEmpty:=by
 have:d.toList.isEmpty=es.toList.isEmpty:=by generalize es.toList=l at h;generalize d.toList=l' at h;cases h<;>rfl
 grind
def Wn{t kt L:tI}(M:P.underlying t=some (.map kt L)){v v':vL}(h:VR F R v v'):Sim P F K (λR v v'=>VR F R v v') R (Ac3 t v) (Ac3 t v'):=by
 unfold Ac3;refine ah (bV t) λJ E d N C=>?_;obtain⟨rfl,C⟩:=C;rw[M]at C
 cases C
 have m:∀i,J.le i->∀o e:Obj,OwR F K i o e->Sim P F K (λR v v'=>VR F R v v') i (do pure (.pointer (some ⟨<-newObj o,0,none⟩))) (do pure (.pointer (some ⟨<-newObj e,0,none⟩))):=λi _ o e q=>ah (tH λ_ p=>q.mono p) λD G n O hn=>ak λ_ p=>.pointer (.mk 0 none (p.rel _ _ hn.1))
 cases h with
 |nilMap=>exact ah (A:=λR o e=>OwR F K R o e) (ak λ_ _=>.nilMapIter _ _ _) m
 | @map r r' hr=>
  refine ah (lQ (E.rel _ _ hr)) λi h2 o e q=>?_
  rcases q with⟨q,H⟩|⟨a,a',l,rfl,rfl,_⟩
  ·cases q with
   |map k e1 e2=>exact ah (A:=λR o e=>OwR F K R o e) (ak λ_ p=>.mapIter _ _ _ (((E.trans h2).trans p).rel _ _ hr)) λD G=>m D (h2.trans G)
   |_=>exact ay (au _) _
  exact ay (au _) _
 |_=>exact ay (dB (au _)) _
def kC(es:Array MapEntry)(d:Nat)(i:Array Nat):Array (Option MapEntry):=
 (if ((es.filter λe=> !i.contains e.born).filter (·.born<d)).isEmpty then #[none]else #[])++(((es.filter λe=> !i.contains e.born).filter (·.born<d))++((es.filter λe=> !i.contains e.born).filter (·.born≥d))).map some
def Wp{es p:Array MapEntry}(h:ERl F R es.toList p.toList)(d:Nat)(m:Array Nat):(kC p d m).size=(kC es d m).size/\
 ∀i:Nat,((kC es d m)[i]? =none/\(kC p d m)[i]? =none)\/((kC es d m)[i]? =some none/\(kC p d m)[i]? =some none)\/∃e q,(kC es d m)[i]? =some (some e)/\(kC p d m)[i]? =some (some q)/\jZ F R e q:=by
 have A:ERl F R (es.filter λe=> !m.contains e.born).toList (p.filter λe=> !m.contains e.born).toList:=h.filterA λe q r=>by rw[r]
 have h2:ERl F R ((es.filter λe=> !m.contains e.born).filter (·.born<d)).toList ((p.filter λe=> !m.contains e.born).filter (·.born<d)).toList:=A.filterA λe q r=>by rw[r]
 have E:ERl F R ((es.filter λe=> !m.contains e.born).filter (·.born≥d)).toList ((p.filter λe=> !m.contains e.born).filter (·.born≥d)).toList:=A.filterA λe q r=>by rw[r]
 unfold kC;generalize (es.filter λe=> !m.contains e.born).filter (·.born<d)=o at*;generalize (p.filter λe=> !m.contains e.born).filter (·.born<d)=D at*;generalize (es.filter λe=> !m.contains e.born).filter (·.born≥d)=n at*;generalize (p.filter λe=> !m.contains e.born).filter (·.born≥d)=C at*;rw[h2.empty];have h4:ERl F R (o++n).toList (D++C).toList:=by rw[Ae5,Ae5];exact h2.app E
 generalize o++n=x at*;generalize D++C=x' at*;have H:=h4.length;simp only[Ae2]at H;have J:∀i:Nat,((x.map some)[i]? =none/\(x'.map some)[i]? =none)\/∃e q,(x.map some)[i]? =some (some e)/\(x'.map some)[i]? =some (some q)/\jZ F R e q:=λi=>by
  by_cases G:i<x.size
  ·refine .inr ⟨x[i],x'[i]' zP,by simp[G],by simp[show i<x'.size by omega],h4.get i _ _ ?_ ?_⟩
   ·grind
   grind
  grind
 grind
def Wq{v v':vL}(h:VR F R v v')(t:tI):Sim P F K (λR v v'=>VR F R v v') R (Adi v false t) (Adi v' false t):=by
 unfold Adi;dsimp only
 cases h with
 | @pointer a a' ha=>
  cases ha with
  | @mk b b' o s D=>
  cases o with
  |succ o=>exact ay (au _) _
  |zero=>
   refine ah (lQ D) λT Q o S d=>?_
   rcases d with⟨d,r⟩|⟨a,a',l,rfl,rfl,_⟩
   ·cases d with
    |nilMapIter s q l=>exact ak λ_ _=>.tuple rfl (VRs.one (.bool _)).get
    | @mapIter m m' since seen last hm=>
     dsimp only;refine ah (lQ hm) λJ h2 o S d=>?_
     rcases d with⟨d,G⟩|⟨a,a',l,rfl,rfl,_⟩
     ·cases d with
      | @map es es' k e1 e2=>
       dsimp only;have E:ERl F J es.toList es'.toList:=by grind [ERl.of]
       have p:es'.all (λe=>decide (e.born≥last))=es.all (λe=>decide (e.born≥last)):=by rw[<-Ae9,<-Ae9];exact E.all λe O D=>by rw[D]
       rw[E.empty,p]
       split
       ·exact ay (dB (au _)) _
       obtain⟨c1,N⟩:=Wp E since seen
       show Sim P F K _ J (do let n <-choose (.mapNext (kC es since seen).size);_) (do let n <-choose (.mapNext (kC es' since seen).size);_)
       rw[c1];refine ah (tC _) λM i n V hn=>?_;obtain rfl:=hn
       show Sim P F K _ M (match (kC es since seen)[n]? with|some (some e)=>_|some none=>_|none=>_) (match (kC es' since seen)[n]? with|some (some e)=>_|some none=>_|none=>_)
       rcases N n with⟨A,C⟩|⟨A,C⟩|⟨e,O,A,C,H⟩
       ·rw[A,C];exact ay (au _) _
       ·rw[A,C];exact ak λ_ _=>.tuple rfl (VRs.one (.bool _)).get
       rw[A,C];dsimp only;rw[H.born];refine ah (lT (((Q.trans h2).trans i).rel _ _ D) (i.own _ (h2.own _ r)) (.mapIter _ _ _ ((h2.trans i).rel _ _ hm))) λU h4 _ _ _=>?_;exact ak λ_ L=>.tuple rfl (VRs.push (VRs.push (VRs.one (.bool _)) (H.key.mono ((i.trans h4).trans L))) (H.val.mono ((i.trans h4).trans L))).get
      |_=>exact ay (au _) _
     exact ay (au _) _
    |_=>exact ay (au _) _
   exact ay (au _) _
 |_=>exact ay (au _) _
theorem ERl.find{p:MapEntry->Bool}(i:∀e d,d.born=e.born->p d=p e){l l':List MapEntry}(h:ERl F R l l'):(l.find? p=none/\l'.find? p=none)\/∃e d,l.find? p=some e/\l'.find? p=some d/\jZ F R e d:=by
 induction h with
 |nil=>exact .inl ⟨rfl,rfl⟩
 | @cons e d l l' he _ ih=>
  rw[Afe,Afe,i _ _ he.born]
  grind
def Ws{v v':vL}(h:VR F R v v'):Sim P F K (λR v v'=>VR F R v v') R (Acz v) (Acz v'):=by
 unfold Acz
 cases h with
 | @pointer a a' ha=>
  cases ha with
  | @mk b b' o s i=>
  cases o with
  |succ o=>exact ay (au _) _
  |zero=>
   refine ah (lQ i) λM N o L d=>?_
   rcases d with⟨d,E⟩|⟨a,a',l,rfl,rfl,_⟩
   ·cases d with
    | @mapIter m m' since seen last hm=>
     dsimp only
     cases seen.back? with
     |none=>exact ay (au _) _
     |some stamp=>
     dsimp only;refine ah (lQ hm) λC h2 o L d=>?_
     rcases d with⟨d,q⟩|⟨a,a',l,rfl,rfl,_⟩
     ·cases d with
      | @map es es' k e1 e2=>
       dsimp only;have J:ERl F C es.toList es'.toList:=by grind [ERl.of]
       split
       ·exact ay (dB (au _)) _
       show Sim P F K _ C (match es.find? (λe=>e.born==stamp)with|some e=>_|none=>_) (match es'.find? (λe=>e.born==stamp)with|some e=>_|none=>_)
       rw[<-Ae6,<-Ae6]
       rcases J.find (p:=λe=>e.born==stamp) (λe H i=>by rw[i])with⟨r,A⟩|⟨e,H,r,A,G⟩
       ·rw[r,A];exact ay (au _) _
       rw[r,A];exact ak λ_ D=>.tuple rfl (VRs.push (VRs.one (G.key.mono D)) (G.val.mono D)).get
      |_=>exact ay (au _) _
     exact ay (au _) _
    |_=>exact ay (au _) _
   exact ay (au _) _
 |_=>exact ay (au _) _
end
end Go.Tp
namespace Go.Tp
variable {fr fr':fR} {w w1:wD} {k k':List Item} {es:Array Event} {R' R:Rl} {a a' c:Array vL} {f:fI} {g g1:Goroutine} {mn:Bool} {v v':vL} {t:tI} {b:Code} {l l':Nat} {o:Oper} {cs:List fR} {ops:Array Oper}
section
variable {P:pQ} {F:fI->Bool} {K:Kd} {R:Rl}
def Ed:vL->Bool
 |.bool _|.int .. |.float .. |.string _|.pointer none|.slice none _ _|.map none|.chan none|.nilFunc|.nilIface=>true
 |_=>false
def Ee(h:Ed v=true):VR F R v v:=by
 cases v with
 |pointer a=>cases a with
  |none=>exact .nilPointer
  |some a=>cases h
 |slice a n c=>cases a with
  |none=>exact .nilSlice n c
  |some a=>cases h
 |map a=>cases a with
  |none=>exact .nilMap
  |some a=>cases h
 |chan a=>cases a with
  |none=>exact .nilChan
  |some a=>cases h
 |bool b=>exact .bool b
 |int k n=>exact .int k n
 |float k n=>exact .float k n
 |string s=>exact .string s
 |nilFunc=>exact .nilFunc
 |nilIface=>exact .nilIface
 |_=>cases h
def aU(F:fI->Bool)(Gl:Nat->Bool):Operand->Bool
 |.tmp _=>true
 |.const v=>Ed v
 |.global g=>Gl g
 |.func f=>F f
def Ko(P:pQ)(t:tI):Bool:=match P.underlying t with
 |some (.slice _)|some (.array ..)|some .string=>true
 |_=>false
def xK:Nat->vL->Bool
 |n+1,.agg c=>c.all (xK n)
 |n+1,.tuple c=>c.all (xK n)
 |_,v=>Ed v
theorem Kq:∀(n:Nat) (v:vL),xK n v=true->VR F R v v
 |0,v,h=>Ee (by cases v<;>first|exact h|cases h)
 |n+1,v,h=>by
  have d:∀c:Array vL,c.all (xK n)=true->∀(i:Nat) (a a':vL),c[i]? =some a->c[i]? =some a'->VR F R a a':=λc hc i a a' e m=>by rw[e,Option.some.injEq]at m;subst m;rw[Ae0]at hc;exact Kq n a (hc a (Array.mem_of_getElem? e))
  cases v with
  |agg c=>exact .agg rfl (d c h)
  |tuple c=>exact .tuple rfl (d c h)
  |_=>exact Ee h
def zeroS(P:pQ)(t:tI):Bool:=match (P.info? t).bind (·.zero)with
 |some z=>xK 6 z
 |none=>true
theorem Ae(h:zeroS P t=true):mG P F t:=by
 intro i z d e R;unfold zeroS at h
 grind [Kq]
def vI(P:pQ)(t:tI):Bool:=match P.underlying t with
 |some (.int _)=>true
 |_=>false
def xM(P:pQ)(t:tI):Bool:=match P.underlying t with
 |some .string=>true
 |_=>false
def vJ(P:pQ)(t:tI):Bool:=match P.underlying t with
 |some (.slice e)=>zeroS P e
 |_=>false
def xO(P:pQ)(t:tI):Bool:=match P.underlying t with
 |some (.map k e)=>keyS P k&&zeroS P e
 |_=>false
def Kr(h:vI P t=true):∃k,P.underlying t=some (.int k):=by
 unfold vI at h
 grind
def Ef(h:xM P t=true):P.underlying t=some .string:=by
 unfold xM at h
 grind
def Af(h:vJ P t=true):∀e,P.underlying t=some (.slice e)->mG P F e:=λe d=>by
 unfold vJ at h
 grind [Ae]
def Eh(h:xO P t=true):∃k e,P.underlying t=some (.map k e)/\keyS P k=true/\mG P F e:=by
 unfold xO at h
 split at h
 ·simp only[Aal]at h
  grind [Ae]
 cases h
def Ag(P:pQ)(t:tI):Bool:=match P.underlying t with
 |some (.slice _)=>true
 |_=>false
def Kt(h:Ag P t=true):∃e,P.underlying t=some (.slice e):=by
 unfold Ag at h
 grind
def opS(P:pQ)(F:fI->Bool)(Gl:Nat->Bool)(o:Oper):Bool:=match o.op with
 |.move x|.assign x|.box _ x|.load _ x|.fieldAddr _ x _|.extract x _=>aU F Gl x
 |.alloc t=>zeroS P t
 |.build t parts=>zeroS P t&&parts.all λp=>aU F Gl p.2
 |.store _ a x|.indexAddr _ a x|.index _ a x=>aU F Gl a&&aU F Gl x
 |.binOp op t x y _=>(pW P op t||vF P op t)&&aU F Gl x&&aU F Gl y
 |.unOp .not _ x=>aU F Gl x
 |.pick c a b=>aU F Gl c&&aU F Gl a&&aU F Gl b
 |.convert s t x=>((vI P s&&vI P t)||(xM P s&&vH P t)||(vH P s&&xM P t))&&aU F Gl x
 |.buildSlice t _ parts=>vJ P t&&parts.all λp=>aU F Gl p.2
 |.makeSlice t x y=>vJ P t&&aU F Gl x&&aU F Gl y
 |.slice t x lo hi none=>Ag P t&&aU F Gl x&&lo.all (aU F Gl)&&hi.all (aU F Gl)
 |.nilCheck x=>aU F Gl x
 |.makeMap _ none=>true
 |.lookup t x k _=>xO P t&&aU F Gl x&&aU F Gl k
 |.mapUpdate t m k x=>xO P t&&aU F Gl m&&aU F Gl k&&aU F Gl x
 |.range t x=>(xM P t||xO P t)&&aU F Gl x
 |.next it _=>aU F Gl it
 |.entry it=>aU F Gl it
 |.makeFunc (.func f) first captured=>F f&&first.all (aU F Gl)&&captured.all (aU F Gl)
 |.call {callee:=.value f,args, .. }=>aU F Gl f&&args.all (aU F Gl)
 |.call {callee:=.builtin .len,args,argTypes}=>match args.toList,argTypes[0]? with
  |[x],some t=>aU F Gl x&&Ko P t
  |_,_=>false
 |.call {callee:=.builtin .min,args, .. }=>args.all (aU F Gl)
 |.call {callee:=.builtin .max,args, .. }=>args.all (aU F Gl)
 |.call {callee:=.builtin .clear,args,argTypes}=>match args.toList,argTypes[0]? with
  |[x],some t=>aU F Gl x&&Ag P t&&vJ P t
  |_,_=>false
 |.call {callee:=.builtin .append,args,argTypes}=>match args.toList,argTypes[0]?,argTypes[1]? with
  |[x,y],some t,some t'=>aU F Gl x&&aU F Gl y&&vJ P t&& !vI P t'
  |_,_,_=>false
 |_=>false
structure FOk (P:pQ) (F:fI->Bool):Prop where
 body:∀f,F f=true->∃fn b,P.funcs[f]? =some fn/\fn.body=some b/\(fn.name== "runtime.NumGoroutine")=false
def ER(F:fI->Bool)(Gl:Nat->Bool)(R:Rl)(ρ ρ':Operand->vL):Prop:=∀x,aU F Gl x=true->VR F R (ρ x) (ρ' x)
theorem ER.mono{Gl:Nat->Bool}{ρ ρ':Operand->vL}(h:ER F Gl R ρ ρ')(d:R.le R'):ER F Gl R' ρ ρ':=λx hx=>(h x hx).mono d
variable {Gl:Nat->Bool} {ρ ρ':Operand->vL}
def mO(m:ER F Gl R ρ ρ'){a:Array Operand}(p:a.all (aU F Gl)=true):VRs F R (a.map ρ) (a.map ρ'):=by
 refine⟨yW,λi v v' h d=>?_⟩;rw[Array.getElem?_map]at h d
 cases e:a[i]? with
 |none=>rw[e]at h;cases h
 |some x=>rw[e]at h d;simp only[Option.map_some,Option.some.injEq]at h d;subst h d;exact m x (by grind)
def VRs.append{b m:Array vL}(h:VRs F R a a')(p:VRs F R b m):VRs F R (a++b) (a'++m):=by
 refine⟨by simp[h.size,p.size],λi v v' e d=>?_⟩;rw[Array.getElem?_append]at e d;rw[<-h.size]at d;by_cases q:i<a.size
 ·rw[if_pos q]at e d;exact h.get i v v' e d
 rw[if_neg q]at e d;exact p.get _ v v' e d
def dh{s s':Sem vL}(h:Sim P F K (λR v v'=>VR F R v v') R s s'):Sim P F K (λR n e=>jg F K R n e) R (do pure (.value (<-s))) (do pure (.value (<-s'))):=
 ah h λ_ _ _ _ d=>ak λ_ h2=>.value (d.mono h2)
def Ku{s s':Sem Unit}(h:Sim P F K (λ_ _ _=>True) R s s'):Sim P F K (λR n d=>jg F K R n d) R (do s;pure .skip) (do s';pure .skip):=
 ah h λ_ _ _ _ _=>ak λ_ _=>.skip
def Wu(C:FOk P F)(d:F f=true)(D:VRs F R a a'):Sim P F K (λR n G=>jg F K R n G) R (callFunc f a) (callFunc f a'):=by
 unfold callFunc;refine ah lN λH A p J E=>?_;obtain⟨rfl,rfl⟩:=E;obtain⟨r,b,e,i,m⟩:=C.body f d;have q:r.body.isNone=false:=by rw[i];rfl
 simp only[e,m,q,kF,if_false];exact ak λ_ h2=>.enter f d ((D.mono A).mono h2)
def Kv(E:FOk P F)(G:VR F R v v')(C:VRs F R a a'):
 Sim P F K (λR n J=>jg F K R n J) R (do let d <-Deferred.ofValue v a;invoke d.target d.args) (do let d <-Deferred.ofValue v' a';invoke d.target d.args):=by
 cases G with
 |func f hf h1 h2 h3 h4=>intro p q;exact Wu (R:=R) E hf ((VRs.append (VRs.append ⟨h1,h2⟩ C) ⟨h3,h4⟩)) p q
 |nilFunc=>intro p q w u H es x w1 i m;have A:=jf (P:=P) (α:=Next) .nilDeref w es x w1 i;exact absurd m A
 |shut=>intro p q w u H es x w1 i m;have A:=jf (P:=P) (α:=Next) .nilDeref w es x w1 i;exact absurd m A
 |yield m=>intro p q;exact VE (R:=R) m (VRs.append VRs.nil C) p q
 |_=>exact ay (noOk_bind' (au _)) _
where
 noOk_bind' {α β:Type} {s:Sem β} {f:β->Sem α} (h:fJ P s):fJ P (s >>=f):=λw es a w1 i m=>by
  rw[runT_bind]at m
  cases D:s.runT P w es with
  |mk r e=>
   rw[D]at m
   cases r with
   |ok b w2=>exact h _ _ _ _ _ D
   |halt x w2=>cases m
theorem Kw:∀{l l':List vL} {R:Rl} {v v':vL},VRl F R l l'->VR F R v v'->Sim P F K (λR v v'=>VR F R v v') R (l.foldlM Aci v) (l'.foldlM Aci v')
 |[],_,R,v,v',h,hv=>by cases h;exact ak λ_ h2=>hv.mono h2
 |x::_,_,R,v,v',h,hv=>by
  cases h with
  |cons hx hl=>rw[Aee,Aee];exact ah (Vj hv hx) λi d _ _ e=>Kw (hl.mono d) e
def Wv(h:VRs F R a a')(e:Array tI)(t:tI):Sim P F K (λR v v'=>VR F R v v') R (Ack e t a) (Ack e t a'):=by
 have d:=h.toList;unfold Ack;generalize a.toList=l at d;generalize a'.toList=l' at d
 cases d with
 |nil=>exact ay (au _) _
 |cons hx d=>exact Kw d hx
theorem Ei(d:ER F Gl R ρ ρ'):∀{l:List (Nat×Operand)},(∀p∈l,aU F Gl p.2=true)->PRl F R (l.map λp=>(p.1,ρ p.2)) (l.map λp=>(p.1,ρ' p.2))
 |[],_=>.nil
 |p::_,h=>.cons _ (d _ (h p (Aah ..))) (Ei d λq e=>h q (Rf _ e))
def Ky(d:ER F Gl R ρ ρ'){x:Option Operand}(h:x.all (aU F Gl)=true):oH F R (x.map ρ) (x.map ρ'):=by
 cases x with
 |none=>exact .none
 |some x=>exact .some (d x h)
def Wx{dst:Option Tmp}{m:tI}{pos:String}{after:Array Go.Edge}{guard:Option (Nat×Bool)}{x:Operand}(i:VR F R (ρ x) (ρ' x)):Sim P F K (λR n q=>jg F K R n q) R
 (execOp ρ {dst:=dst,op:=.nilCheck x,type:=m,pos:=pos,after:=after,guard:=guard}) (execOp ρ' {dst:=dst,op:=.nilCheck x,type:=m,pos:=pos,after:=after,guard:=guard}):=by
 unfold execOp;dsimp only;generalize ρ x=v at i;generalize ρ' x=v' at i;have p:=i
 cases i with
 |nilPointer=>exact ay (jf _) _
 |nilIface=>exact ay (jf _) _
 |nilFunc=>exact ay (jf _) _
 |shut=>exact ay (jf _) _
 | @poison v' hs=>
  have e:VR F R (.tuple #[]) v':=.poison hs
  cases v' with
  |pointer a=>cases a with
   |none=>exact False.elim hs
   |some a=>exact ak λ_ d=>.value (e.mono d)
  |nilIface=>exact False.elim hs
  |nilFunc=>exact False.elim hs
  |func f a c=>cases f with
   |method n=>exact False.elim hs
   |_=>exact ak λ_ d=>.value (e.mono d)
  |_=>exact ak λ_ d=>.value (e.mono d)
 |_=>exact ak λ_ d=>.value (p.mono d)
def Ah(Y:FOk P F)(d:opS P F Gl o=true)(m:ER F Gl R ρ ρ'):mM P F K (λR n n'=>jg F K R n n') R (execOp ρ o) (execOp ρ' o):=by
 obtain⟨W,op,S,aa,T,U⟩:=o;unfold opS at d;dsimp only at d
 split at d
 ·exact aY (ak λ_ h=>.value ((m _ d).mono h))
 ·exact aY (ak λ_ h=>.value ((m _ d).mono h))
 ·exact aY (dh (U7 (m _ d) _))
 ·exact aY (dh (U5 (m _ d) _))
 ·exact aY (dh (U2 (m _ d) _ _))
 ·exact aY (dh (U9 (m _ d) _))
 ·exact aY (dh (U8 (Ae d)))
 ·rename_i t H;simp only[Aal]at d;refine aY (dh (Vg (Ae d.1) ?_))
  grind [Ae0,Afa,Ei]
 ·simp only[Aal]at d;exact aY (Ku (U6 (m _ d.1) (m _ d.2) _))
 ·simp only[Aal]at d;exact aY (dh (Vb (m _ d.1) (m _ d.2) _))
 ·simp only[Aal]at d;exact aY (dh (Vw (m _ d.1) (m _ d.2) _))
 ·simp only[Aal]at d;obtain⟨⟨p,h2⟩,q⟩:=d;rename_i op t x y _;rw[Afd]at p
  rcases p with p|p
  rotate_left
  ·by_cases G:ρ x=.tuple #[]\/ρ y=.tuple #[]
   ·exact aY (dh (ay (pU λ_=>VT p _ _ G) _))
   refine aY (dh (ah (VW p _ _ (m _ h2) (m _ q) (λe=>G (.inl e)) λe=>G (.inr e)) λD A _ _ _=>?_));exact VZ p ((m _ h2).mono A) ((m _ q).mono A)
  by_cases G:ρ x=.tuple #[]\/ρ y=.tuple #[]
  ·exact aY (dh (ay (pU λ_=>Vq p _ _ G) _))
  refine aY (dh (ah (Vt p _ _ (m _ h2) (m _ q) (λe=>G (.inl e)) λe=>G (.inr e)) λD A _ _ _=>?_));exact Vr p ((m _ h2).mono A) ((m _ q).mono A)
 ·exact aY (dh (Vu (m _ d)))
 ·simp only[Aal]at d;obtain⟨⟨p,h2⟩,q⟩:=d;refine aY (ah (DY (m _ p)) λD A b b' Z=>?_);obtain rfl:=Z;refine ak λR2 Q=>?_
  split
  ·exact .value ((m _ h2).mono (A.trans Q))
  exact .value ((m _ q).mono (A.trans Q))
 ·simp only[Aal,Afd]at d;obtain⟨(⟨p,h2⟩|⟨p,h2⟩)|⟨p,h2⟩,q⟩:=d
  ·obtain⟨ks,p⟩:=Kr p;obtain⟨kt,h2⟩:=Kr h2;exact aY (dh (Vy p h2 (m _ q)))
  ·exact aY (dh (Wi (Ef p) h2 (m _ q)))
  exact aY (dh (Wj p (Ef h2) (m _ q)))
 ·rename_i t n H;simp only[Aal]at d;refine aY (dh (VG (Af d.1) n ?_))
  grind [Ae0,Afa,Ei]
 ·simp only[Aal]at d;obtain⟨⟨p,h2⟩,q⟩:=d;exact aY (dh (V4 (Af p) (m _ h2) (m _ q)))
 ·simp only[Aal]at d;obtain⟨⟨⟨p,h2⟩,q⟩,h4⟩:=d;exact aY (dh (V5 (Kt p) (m _ h2) (Ky m q) (Ky m h4)))
 ·rename_i x;intro D E;exact aY (R:=R) (Wx (ρ:=ρ) (ρ':=ρ') (m x d)) D E
 ·exact aY (dh (VL _))
 ·simp only[Aal]at d;obtain⟨⟨p,h2⟩,q⟩:=d;obtain⟨k,e,p,h4,h5⟩:=Eh (F:=F) p;exact aY (dh (VO p h4 h5 (m _ h2) (m _ q) _))
 ·simp only[Aal]at d;obtain⟨⟨⟨p,h2⟩,q⟩,h4⟩:=d;obtain⟨k,e,p,h5,_⟩:=Eh (F:=F) p;exact VJ (VQ p h5 (m _ h2) (m _ q) (m _ h4)) λ_ _ _ _ _=>.skip
 ·simp only[Aal,Afd]at d
  rcases d.1 with h|h
  ·exact aY (dh (Vz (Ef h) (m _ d.2)))
  obtain⟨k,e,h,_⟩:=Eh (F:=F) h;exact aY (dh (Wn h (m _ d.2)))
 ·rename_i b
  cases b
  ·exact aY (dh (Wq (m _ d) _))
  exact aY (dh (VA (m _ d) _))
 ·exact aY (dh (Ws (m _ d)))
 ·simp only[Aal]at d;obtain⟨⟨p,h2⟩,q⟩:=d;exact aY (dh (Va _ p (mO m h2) (mO m q)))
 ·simp only[Aal]at d;exact aY (Kv Y (m _ d.1) (mO m d.2))
 ·rename_i r i
  split at d
  ·rename_i x t J L;simp only[Aal]at d;obtain⟨p,h2⟩:=d;have O:r=#[x]:=by apply Afq;simpa using J
   subst O;have ht:(∃e,P.underlying t=some (.slice e))\/(∃n e,P.underlying t=some (.array n e))\/P.underlying t=some .string:=by
    unfold Ko at h2
    grind
   have M:#[x].map ρ=#[ρ x]:=yW
   have N:#[x].map ρ'=#[ρ' x]:=yW
   have C:=dh (K:=K) (Vh (P:=P) ht i L S (m x p));rw[<-M,<-N]at C;intro D E;exact aY (R:=R) C D E
  cases d
 ·rename_i r i;intro D E;exact aY (dh (Wv (K:=K) (mO m d) i S)) D E
 ·rename_i r i;intro D E;exact aY (dh (VD (K:=K) (mO m d) i S)) D E
 ·rename_i r i
  split at d
  ·rename_i x t J L;simp only[Aal]at d;obtain⟨⟨p,h2⟩,q⟩:=d;have O:r=#[x]:=by apply Afq;simpa using J
   subst O;obtain⟨e,V⟩:=Kt h2;have M:#[x].map ρ=#[ρ x]:=yW
   have N:#[x].map ρ'=#[ρ' x]:=yW
   have C:=dh (K:=K) (V6 (P:=P) L ⟨e,V,Af q e V⟩ S (m x p));rw[<-M,<-N]at C;intro D E;exact aY (R:=R) C D E
  cases d
 ·rename_i r i
  split at d
  ·rename_i x y t t' J L M;simp only[Aal,Aec]at d;obtain⟨⟨⟨p,h2⟩,q⟩,h4⟩:=d;have O:r=#[x,y]:=by apply Afq;simpa using J
   subst O;have hn:∀k,P.underlying t'≠some (.int k):=λk e=>by simp[vI,e]at h4
   have N:#[x,y].map ρ=#[ρ x,ρ y]:=yW
   have X:#[x,y].map ρ'=#[ρ' x,ρ' y]:=yW
   have C:=dh (K:=K) (VI L M hn (Af q) S (m x p) (m y h2));rw[<-N,<-X]at C;intro D E;exact aY (R:=R) C D E
  cases d
 cases d
end
inductive DfR (R:Rl):List Deferred->List Deferred->Prop
 |nil:DfR R [] []
 |cons {r r':Nat} {ds ds':List Deferred}:R.rel r r'->DfR R ds ds'->DfR R ({target:=.collected r,args:=#[]}::ds) ({target:=.collected r',args:=#[]}::ds')
inductive RoR (R:Rl):Option Nat->Option Nat->Prop
 |none:RoR R none none
 |some {l l':Nat}:R.rel l l'->RoR R (some l) (some l')
theorem DfR.mono(h:R.le R'){l l':List Deferred}(x:DfR R l l'):DfR R' l l':=by
 induction x with
 |nil=>exact .nil
 |cons hr _ ih=>exact .cons (h.rel _ _ hr) ih
theorem RoR.mono(h:R.le R'){l l':Option Nat}(x:RoR R l l'):RoR R' l l':=by
 cases x with
 |none=>exact .none
 |some hr=>exact .some (h.rel _ _ hr)
def DfR.append{l l' k k':List Deferred}(x:DfR R l l')(y:DfR R k k'):DfR R (l++k) (l'++k'):=by
 induction x with
 |nil=>exact y
 |cons hr _ ih=>exact .cons hr ih
section
variable {P:pQ} {F:fI->Bool} {K:Kd} {R:Rl}
def Wy(J:K.f f){E:Array vL}(hc:VRs F R c E)(ps:Array Tmp){a:Afz}(M:K a)(N:K b){o H:Option Nat}(L:RoR R o H):
 Sim P F K (λR p d=>R.rel p.1 d.1/\DfR R p.2 d.2) R (Aa1 f c ps a b o) (Aa1 f E ps a b H):=by
 have e:∀i,R.le i->∀(p d:Nat×List Deferred),(i.rel p.1 d.1/\DfR i p.2 d.2)->Sim P F K (λR (p d:Nat×List Deferred)=>R.rel p.1 d.1/\DfR R p.2 d.2) i
  (do pure (<-newObj (.loop {state:=.ready,pending:=none,fn:=f,tmps:=c,params:=ps,assign:=a,body:=b,defers:=p.1}),p.2))
  (do pure (<-newObj (.loop {state:=.ready,pending:=none,fn:=f,tmps:=E,params:=ps,assign:=a,body:=b,defers:=d.1}),d.2)):=λi C p d q=>by
  refine ah (tH λm h2=>.loop ⟨rfl,rfl,(λc h=>by cases h),rfl,J,(hc.mono C).mono h2,rfl,rfl,rfl,M,N,h2.rel _ _ q.1⟩) λm h2 n S hn=>?_;exact ak λQ G=>⟨G.rel _ _ hn.1,(q.2.mono h2).mono G⟩
 unfold Aa1
 cases L with
 |none=>refine ah (tH λ_ _=>.opened) λi C r O D=>?_;refine ah (A:=λR (p d:Nat×List Deferred)=>R.rel p.1 d.1/\DfR R p.2 d.2) (ak λm h2=>⟨h2.rel _ _ D.1,.cons (h2.rel _ _ D.1) .nil⟩) λm h2 p d q=>e m (C.trans h2) p d q
 |some hl=>refine ah (xJ hl) λi C r O D=>?_;refine ah (A:=λR (p d:Nat×List Deferred)=>R.rel p.1 d.1/\DfR R p.2 d.2) (ak λm h2=>⟨h2.rel _ _ D.1.defers,.nil⟩) λm h2 p d q=>e m (C.trans h2) p d q
def WC(h:R.rel l l'):Sim P F K (λ_ _ _=>True) R (Aar l) (Aar l'):=by
 unfold Aar;refine ah (xJ h) λm i r q e=>?_;obtain⟨e,d⟩:=e;refine ah (lT (i.rel _ _ h) d (.loop {e with state:=rfl})) λp h2 _ _ _=>?_;rw[e.state]
 grind [ak,ay,jf]
def WG(h:R.rel l l')(j:Option Afz)(m:∀c,j=some c->K c):Sim P F K (λR v v'=>VR F R v v') R (Abh l j) (Abh l' j):=by unfold Abh;refine ah (xJ h) λp i r A e=>?_;obtain⟨e,d⟩:=e;refine ah (lT (i.rel _ _ h) d (.loop {e with state:=rfl,pending:=rfl,kP:=m})) λq h2 _ _ _=>?_;exact ak λ_ _=>.bool _
def WH(h:R.rel l l'):Sim P F K (λ_ j m=>j=m/\∀c,j=some c->K c) R (Aby l) (Aby l'):=by
 unfold Aby;refine ah (xJ h) λp i r A d=>?_;obtain⟨d,e⟩:=d;rw[d.state]
 split
 ·grind [ay,dB,jf]
 refine ah (lT (i.rel _ _ h) e (.loop {d with state:=rfl})) λq h2 _ _ _=>?_;exact ak λ_ _=>⟨d.pending.symm,d.kP⟩
def Kz{r m:Nat}(h:R.rel r m):Sim P F K (λ_ p e=>p=[]/\e=[]) R (sU r) (sU m):=by
 unfold sU;refine ah (lQ h) λA q o D i=>?_
 rcases i with⟨i,d⟩|⟨a,a',l,rfl,rfl,_⟩
 ·cases i with
  |opened=>
   refine ah (lT (q.rel _ _ h) d .shut) λC h2 _ _ _=>?_
   grind [ak]
  |_=>exact ay (au _) _
 exact ay (au _) _
end
section
open Go.Conc (mem_seen)
section
variable (P:pQ) (F:fI->Bool) (Gl:Nat->Bool)
def opC(o:Oper):Bool:=opS P F Gl o||(match o.op with|.send .. =>true|_=>false)
def fE:Afz->Bool
 |.region _ ops _=>ops.all (opC P F Gl)
 |.seq a b=>fE a&&fE b
 |.cond c a b=>aU F Gl c&&fE a&&fE b
 |.block _ c|.loop c|.scope c=>fE c
 |.rangeFunc f _ a b=>aU F Gl f&&fE a&&fE b
 |.skip|.exit _|.label _|.ret=>true
 |_=>false
def Kn(P:pQ)(f:fI):Prop:=∃d,P.funcs[f]? =some d/\P.inits.idxOf? f=none
def pX:Afz->Option (Array Tmp×Afz×Afz)
 |.rangeFunc _ ps a b=>some (ps,a,b)
 |.seq x y|.cond _ x y=>(pX x).or (pX y)
 |.block _ c|.loop c|.scope c=>pX c
 |_=>none
def stN:Nat->LoopState
 |0=>.ready
 |1=>.busy
 |2=>.done
 |_=>.exhausted
def decP(P:pQ)(e:Array (Nat×Deferred))(i:Option Nat):Option Loop:=
 (e[0]?).bind λx=>i.bind λf=>match x.2.target with
  |.collected d=>(((P.funcs[f]?).bind (·.body)).bind pX).map λq=>{state:=stN (x.1 % 4),pending:=if x.1<4 then none else some (.exit (x.1 / 4-1)),fn:=f,tmps:=x.2.args,params:=q.1,assign:=q.2.1,body:=q.2.2,defers:=d}
  |_=>none
abbrev KC:Kd:=⟨λc=>fE P F Gl c=true,Kn P,decP P⟩
def tZ:Item->Bool
 |.code c|.inLoop c|.inScope c=>fE P F Gl c
 |.inRegion ops _=>ops.all (opC P F Gl)
 |.inBlock _|.beginRound=>true
 |_=>false
inductive ItR (R:Rl):Item->Item->Prop
 |same {it:Item}:tZ P F Gl it=true->ItR R it it
 |inRange {l l':Nat}:R.rel l l'->ItR R (.inRangeFunc l) (.inRangeFunc l')
 |endRange {l l':Nat}:R.rel l l'->ItR R (.endRangeFunc l) (.endRangeFunc l')
abbrev fK:Item:=.code (.cond (.const undef) .skip .skip)
inductive TdR (kt:List Item) (b:Bool) (R:Rl):List Item->List Item->Prop
 |nil:TdR kt b R [] []
 |cons {it it':Item} {k k':List Item}:ItR P F Gl R it it'->TdR kt b R k k'->TdR kt b R (it::k) (it'::k')
 |halt:b=true->TdR kt b R [fK] kt
structure FC:Prop where
 body:∀f,F f=true->∃fn b,P.funcs[f]? =some fn/\fn.body=some b/\(fn.name== "runtime.NumGoroutine")=false/\fE P F Gl b=true/\P.inits.idxOf? f=none
structure FrR (kt:List Item) (R:Rl) (fr fr':fR):Prop where
 fn:fr'.fn=fr.fn
 known:Kn P fr.fn
 todo:TdR P F Gl kt fr.roundOf.isNone R fr.todo fr'.todo
 defers:DfR R fr.defers fr'.defers
 mode:fr'.mode=fr.mode
 kind:fr.kind≠.early
 kind':fr'.kind=fr.kind
 round:RoR R fr.roundOf fr'.roundOf
 tmps:VRs F R fr.tmps fr'.tmps
inductive FrL (kt:List Item) (tl:List fR) (R:Rl):List fR->List fR->Prop
 |nil:FrL kt tl R [] tl
 |cons {fr fr':fR} {l l':List fR}:FrR P F Gl kt R fr fr'->fr.todo≠[fK]->(l=[]\/fr.kind=.normal)->FrL kt tl R l l'->FrL kt tl R (fr::l) (fr'::l')
def Marked(fr:fR):Prop:=(∀d∈fr.defers,∃r,d={target:=.collected r,args:=#[]})/\∃e,P.funcs[fr.fn]? =some e
def dZ(g:Afv)(w:wD):Prop:=g.status≠.running\/g.dyingOn P\/
 (g.dying=none/\(∃c,g.frame.mode=.panicking c)/\Started w/\∀fr∈g.frame::g.callers,Marked P fr)
end
section
variable {P:pQ} {I:fI->Prop} {F:fI->Bool} {Gl:Nat->Bool} {kt:List Item} {bb:Bool} {tl:List fR} {R:Rl}
def FC.ok(h:FC P F Gl):FOk P F:=⟨λf m=>let ⟨d,b,e,h2,i,_⟩:=h.body f m;⟨d,b,e,h2,i⟩⟩
theorem ItR.mono{it d:Item}(x:ItR P F Gl R it d)(h:R.le R'):ItR P F Gl R' it d:=by
 cases x with
 |same hi=>exact .same hi
 |inRange hl=>exact .inRange (h.rel _ _ hl)
 |endRange hl=>exact .endRange (h.rel _ _ hl)
theorem TdR.mono(x:TdR P F Gl kt bb R k k')(h:R.le R'):TdR P F Gl kt bb R' k k':=by
 induction x with
 |nil=>exact .nil
 |cons hi _ ih=>exact .cons (hi.mono h) ih
 |halt hb=>exact .halt hb
theorem FrR.mono(h:FrR P F Gl kt R fr fr')(d:R.le R'):FrR P F Gl kt R' fr fr':={h with tmps:=h.tmps.mono d,todo:=h.todo.mono d,defers:=h.defers.mono d,round:=h.round.mono d}
theorem FrL.mono{l l':List fR}(h:FrL P F Gl kt tl R l l')(d:R.le R'):FrL P F Gl kt tl R' l l':=by
 induction h with
 |nil=>exact .nil
 |cons h hh hk _ ih=>exact .cons (h.mono d) hh hk ih
def DfR.marks{l l':List Deferred}(h:DfR R l l'):∀d∈l,∃r,d={target:=.collected r,args:=#[]}:=by
 induction h with
 |nil=>intro d e;cases e
 | @cons r _ _ _ _ _ ih=>
  intro d e
  rcases Ab3.1 e with rfl|e
  ·exact⟨r,rfl⟩
  exact ih d e
theorem FrL.all{l l':List fR}(h:FrL P F Gl kt tl R l l'):∀fr∈l,Marked P fr:=by
 induction h with
 |nil=>intro fr h;cases h
 |cons h _ _ _ ih=>
  intro fr d
  rcases Ab3.1 d with rfl|d
  ·obtain⟨e,i,_⟩:=h.known;exact⟨h.defers.marks,e,i⟩
  exact ih fr d
def vK{α:Type}{A:α->Prop}{s:Sem α}(hc:Calm P A s)(p:Started w){e:Array Afy}{r:Result α}(hr:s.runT P w es=(r,e)):okR A r:=by
 obtain⟨k,q,m,h2,_⟩:=Dh s w hc p;obtain⟨i,d,_⟩:=m w.tape w.drawn noJ es dS (λj _=>rfl) (.inl rfl);rw[jP,hr]at d
 cases q with
 |ok a w1=>simp only[Result.tp,Prod.mk.injEq]at d;rw[d.1];exact⟨h2.1,fC h2.2 _ _⟩
 |halt x w1=>simp only[Result.tp,Prod.mk.injEq]at d;rw[d.1];exact⟨h2.1,fC h2.2 _ _⟩
def raise_mode(fr:fR)(c:List Afr):∃d,(fr.raise c).mode=.panicking d:=by
 unfold Afn
 split<;>exact⟨_,rfl⟩
def KE(fr:fR)(c:List Afr):(fr.raise c).defers=fr.defers/\(fr.raise c).fn=fr.fn:=by
 unfold Afn
 split<;>exact⟨rfl,rfl⟩
def Ej{c:List Afr}{m:GoStatus}{d:Option (Array CommCase×CommShape)}(i:Started w)(h:∀x∈fr::cs,Marked P x):
 dZ P {frame:=fr.raise c,callers:=cs,status:=m,dying:=none,offers:=d} w:=by
 refine .inr (.inr ⟨rfl,raise_mode fr c,i,λx hx=>?_⟩)
 rcases Ab3.1 hx with rfl|e
 ·have:=h fr (Aah ..);unfold Marked at this⊢;rw[(KE fr c).1,(KE fr c).2];exact this
 exact h x (Rf _ e)
def KF{τ:Nat->Question->Nat}{d:Nat}(h:dZ P g (w.tp τ d noJ)):dZ P g w:=by
 rcases h with h|h|⟨e,h2,i,h4⟩
 ·exact .inl h
 ·exact .inr (.inl h)
 refine .inr (.inr ⟨e,h2,?_,h4⟩);have:=fC i w.tape w.drawn;rw[fB,jP]at this;exact this
def WI{τ:Nat->Question->Nat}{d:Nat}(h:dZ P g w):dZ P g (w.tp τ d noJ):=by
 rcases h with h|h|⟨e,h2,i,h4⟩
 ·exact .inl h
 ·exact .inr (.inl h)
 exact .inr (.inr ⟨e,h2,fC i _ _,h4⟩)
def WJ(b:Nat):Calm P (λd:List Deferred=>d=[]) (sU b):=by
 unfold sU;refine uZ _ (λo e=>?_) (.inl ⟨_,rfl⟩)
 split
 ·exact aK (tu P _ ⟨trivial,rfl⟩) λ_=>e
 exact trivial
def vM{d:Array Afy}{s:GStep}(h:Ac8 es s=.go g w d):∃e,s=.go g w e:=by cases s<;>simp only[Ac8,Afg]at h<;>first|(cases h;done)|exact⟨_,by rw[h.1,h.2.1]⟩
def KI(p:∀q,NoEnter P q)(h:dZ P g w)(hr:g.status=.running)(i:stepG P true g w=.go g1 w1 es):dZ P g1 w1:=by
 rcases h with h|h|⟨G,⟨c,hc⟩,E,m⟩
 ·exact absurd hr h
 ·have:=stepG_okD w h;rw[i]at this;exact .inr (.inl this)
 obtain⟨fr,cs,U,V,L⟩:=g;simp only at G hc m;subst G;obtain⟨M,O,h2⟩:=m fr (Aah ..);have D:fr.catches P=false:=by unfold Frame.catches;rw[h2]
 have e:stepG P true {frame:=fr,callers:=cs,status:=U,dying:=none,offers:=L} w=unwind P true fr cs none w:=by unfold stepG;dsimp only;simp only[hc]
 rw[e]at i;unfold unwind at i
 cases A:fr.defers with
 |cons d ds=>
  obtain⟨r,rfl⟩:=M d (by rw[A];exact Aah ..);rw[A]at i;simp only at i
  cases C:(sU r).runT P w #[]with
  |mk x es0=>
   have J:=vK (WJ r) E C;rw[C]at i;simp only at i;obtain⟨_,H⟩:=vM i
   cases x with
   |halt y N=>cases H
   |ok calls N=>
    obtain⟨Q,S⟩:=J;subst Q;simp only[List.nil_append,Afg]at H;obtain⟨rfl,rfl,_⟩:=H;refine .inr (.inr ⟨rfl,⟨c,hc⟩,S,λx hx=>?_⟩)
    rcases Ab3.1 hx with rfl|T
    ·exact⟨λd G=>M d (by rw[A];exact Rf _ G),O,h2⟩
    exact m x (Rf _ T)
 |nil=>
  rw[A,hc]at i;dsimp only at i;rw[D]at i;simp only[kF,if_false]at i
  cases cs with
  |cons c0 rest=>simp only[Afg]at i;obtain⟨rfl,rfl,_⟩:=i;exact Ej E λx hx=>m x (Rf _ hx)
  |nil=>
   dsimp only at i
   split at i
   ·simp only[Afg]at i;obtain⟨rfl,_,_⟩:=i;exact .inl yW
   split at i
   ·rename_i q N _;simp only[Afg]at i;obtain⟨rfl,_,_⟩:=i;exact .inr (.inl ⟨.inl rfl,_,rfl,rfl,p q⟩)
   ·cases i
   cases i
def WL(d:∀m,NoEnter P m){e:Afv->wD->Prop}(q:∀g w,e g w->¬dZ P g w)(h:Run P e g w):¬dZ P g w:=by
 induction h with
 |stop h=>exact q _ _ h
 | @step g w next i _ p C=>intro r;obtain⟨es,_,A⟩:=(p default 0).step noJ dS;exact C default 0 (KF (KI d (WI r) i A))
def WM(G:Good P I)(r:oG P I g.frame)(C:jR g)(A:g.dying=none)(D:Started w)(h:stepG P true g w=.go g1 w1 es):
 (jR g1/\g1.dying=none/\Started w1)\/dZ P g1 w1:=by
 obtain⟨k,E,q,_,i,_⟩:=DJ G (main:=true) r C A D;obtain⟨m,_,e⟩:=q w.tape w.drawn noJ dS (λj _=>rfl) (.inl rfl);rw[jP]at e;simp only[h]at e
 cases E with
 |go g2 w2 es2=>
  simp only[GStep.tp,Ac8,Afg]at e;obtain⟨rfl,rfl,_⟩:=e
  rcases i with⟨p,h2,H,h4⟩|d
  ·exact .inl ⟨p,h2,fC h4 _ _⟩
  exact .inr (.inr (.inl d))
 |_=>simp[GStep.tp,Ac8]at e
def Ai(h:FrR P F Gl kt R fr fr')(hn:fr.todo≠[fK])(V:VR F R v v'):FrR P F Gl kt R (fr.finish v) (fr'.finish v'):=by
 obtain⟨W,S,T,D,Q,O,J⟩:=fr;obtain⟨U,L,M,C,H,G,E⟩:=fr';obtain⟨p,h2,N,h5,q,r,A,m,e⟩:=h;simp only at p h2 N h5 q r A m e
 cases N with
 |halt _=>exact absurd rfl hn
 |nil=>exact⟨p,h2,.nil,h5,q,r,A,m,e⟩
 | @cons it it' k k' hi hk=>
  cases hi with
  |inRange hl=>exact⟨p,h2,.cons (.endRange hl) hk,h5,q,r,A,m,e⟩
  |endRange hl=>exact⟨p,h2,.cons (.endRange hl) hk,h5,q,r,A,m,e⟩
  |same hit=>
   cases it with
   |inRegion ops l=>
    cases l with
    |nil=>exact⟨p,h2,.cons (.same hit) hk,h5,q,r,A,m,e⟩
    |cons i rest=>
     refine⟨p,h2,.cons (.same hit) hk,h5,q,r,A,m,?_⟩;simp only[Afm]
     cases(ops[i]?).bind (·.dst)with
     |none=>exact e
     |some d=>exact e.set V d
   |code c=>exact⟨p,h2,.cons (.same hit) hk,h5,q,r,A,m,e⟩
   |inBlock c=>exact⟨p,h2,.cons (.same hit) hk,h5,q,r,A,m,e⟩
   |inLoop c=>exact⟨p,h2,.cons (.same hit) hk,h5,q,r,A,m,e⟩
   |inScope c=>exact⟨p,h2,.cons (.same hit) hk,h5,q,r,A,m,e⟩
   |beginRound=>exact⟨p,h2,hk,h5,q,r,A,m,e⟩
   |_=>cases hit
def KJ(n:Nat)(h:VR F R v v'):VRs F R (Afc n v) (Afc n v'):=by
 refine⟨yW,λi a a' e d=>?_⟩;rw[Ae1]at e d
 split at e<;>simp_all
def KL(m:FC P F Gl)(p:F f=true)(e:VRs F R a a'):FrR P F Gl kt R (Ac9 P f a .normal) (Ac9 P f a' .normal):=by
 obtain⟨i,b,d,h2,q,h4,h5⟩:=m.body f p;refine⟨rfl,⟨i,d,h5⟩,?_,.nil,rfl,by simp[Ac9],rfl,.none,?_⟩
 ·simp only[Ac9,d,h2,Option.bind_some,Option.getD_some];exact .cons (.same h4) .nil
 simp only[Ac9];rw[e.size];exact e.append (KJ _ rE)
def WO(e:Kn P f)(i:R.rel l l'){d:Array vL}(hc:VRs F R c d){a:Afz}(m:KC P F Gl a)(p:KC P F Gl b):FrR P F Gl kt R (Ada l f c a b .normal) (Ada l' f d a b .normal):=
 ⟨rfl,e,.cons (.same m) (.cons (.same rfl) (.cons (.same p) .nil)),.nil,rfl,by simp[Ada],rfl,.some i,hc⟩
structure GoK (P:pQ) (F:fI->Bool) (Gl:Nat->Bool) (kt:List Item) (tl:List fR) (R:Rl) (g g':Afv):Prop where
 frame:FrR P F Gl kt R g.frame g'.frame
 callers:FrL P F Gl kt tl R g.callers g'.callers
 run:g.status=.running
 run':g'.status=.running
 alive:g.dying=none
 alive':g'.dying=none
 mode:g.frame.mode=.run\/g.frame.mode=.returning
 cmode:∀x∈g.callers,x.mode=.run
 nk:g.callers=[]\/g.frame.kind=.normal
 off:g.offers=none
 off':g'.offers=none
def WT(h:FrR P F Gl kt R fr fr')(hn:fr.todo≠[fK]):(∀d b r s k,fr.todo≠.call d b r s::k)/\∀d b r s k,fr'.todo≠.call d b r s::k:=by
 have i:=h.todo;refine⟨λd b r s k e=>?_,λd b r s k e=>?_⟩
 ·rw[e]at i;generalize fr'.todo=x at i
  cases i with
  |cons hi _=>cases hi with
   |same hi=>cases hi
 rw[e]at i;generalize fr.todo=x at i hn;generalize m:Item.call d b r s::k=y at i
 cases i with
 |nil=>cases m
 |halt _=>exact hn rfl
 |cons hi _=>cases hi with
  |same hi=>cases m;cases hi
  |inRange _=>cases m
  |endRange _=>cases m
section
variable {fr:fR} {cs:List fR} {s:Sem Next} {w w1:wD} {es0:Array Event}
def Em(d:fr.kind≠.early)(hr:s.runT P w #[]=(.ok (.value v) w1,es0)):
 Afp P true fr cs none s w=.go {frame:=fr.finish v,callers:=cs,status:=.running,dying:=none} w1 (seen P fr.fn es0):=by
 have hke:(fr.kind==Afh)=false:=by simpa using d
 unfold Afp;simp only[hr,hke,if_true,kF,if_false,Ac8,Ae7]
def Aj(d:fr.kind≠.early)(hr:s.runT P w #[]=(.ok .skip w1,es0)):
 Afp P true fr cs none s w=.go {frame:=fr.finish undef,callers:=cs,status:=.running,dying:=none} w1 (seen P fr.fn es0):=by
 have hke:(fr.kind==Afh)=false:=by simpa using d
 unfold Afp;simp only[hr,hke,if_true,kF,if_false,Ac8,Ae7]
def xP(m:fr.kind≠.early)(i:∀d b r s k,fr.todo≠.call d b r s::k)(hr:s.runT P w #[]=(.ok (.enter f a) w1,es0)):
 Afp P true fr cs none s w=.go {frame:=Ac9 P f a .normal,callers:=fr::cs,status:=.running,dying:=none} w1 (seen P fr.fn es0):=by
 have hke:(fr.kind==Afh)=false:=by simpa using m
 unfold Afp;simp only[hr,hke,if_true,kF,if_false,Ac8,Ae7]
 split
 ·rename_i e;exact absurd e (i _ _ _ _ _)
 rfl
def En{a:Afz}(d:fr.kind≠.early)(hr:s.runT P w #[]=(.ok (.round l f c a b) w1,es0)):
 Afp P true fr cs none s w=.go {frame:=Ada l f c a b .normal,callers:=fr::cs,status:=.running,dying:=none} w1 (seen P fr.fn es0):=by
 have hke:(fr.kind==Afh)=false:=by simpa using d
 unfold Afp;simp only[hr,hke,if_true,kF,if_false,Ac8,Ae7]
end
abbrev kD(P:pQ)(F:fI->Bool)(Gl:Nat->Bool)(kt:List Item)(tl:List fR)(R:Rl)(u:wD)(s':GStep)(g1:Afv)(w1:wD):Prop:=
 ∃d m u1 i,R.le d/\s'=.go m u1 i/\GoK P F Gl kt tl d g1 m/\WR P F (KC P F Gl) d (w1.tp u1.tape u1.drawn noJ) u1/\Fr R d u u1/\∀e∈i,EvR d e
def uf(G:Good P I)(Y:FC P F Gl){cs':List fR}(e:FrR P F Gl kt R fr fr')(hn:fr.todo≠[fK])(T:fr.mode=.run)(hc:FrL P F Gl kt tl R cs cs')(H:∀x∈cs,x.mode=.run)(p:cs=[]\/fr.kind=.normal){s s':Sem Next}(hs:mM P F (KC P F Gl) (λR n n'=>jg F (KC P F Gl) R n n') R s s')(E:Calm P lJ s){u:wD}(hw:WR P F (KC P F Gl) R w u)(W:Started w)(h:Afp P true fr cs none s w=.go g1 w1 es)(V:¬dZ P g1 w1):
 kD P F Gl kt tl R u (Afp P true fr' cs' none s' u) g1 w1:=by
 have hke:(fr.kind==Afh)=false:=by simpa using e.kind
 have A:fr'.kind≠.early:=by rw[e.kind'];exact e.kind
 obtain⟨U,N⟩:=WT e hn
 cases J:s.runT P w #[]with
 |mk r es0=>
  have M:∀x∈fr::cs,Marked P x:=λx hx=>(FrL.cons e hn p hc).all x hx
  cases r with
  |ok a w2=>
   obtain⟨L,a',u1,X,i,Q,C,Z,q,S⟩:=hs R (.refl R) w u hw #[] a w2 es0 J #[];have d:∀x∈seen P fr'.fn X,EvR L x:=λx hx=>((S x (mem_seen hx)).resolve_left yW);have m:∀x∈fr::cs,x.mode=.run:=λx hx=>by
    rcases Ab3.1 hx with rfl|hx
    ·exact T
    exact H x hx
   cases Z with
   |value hv=>rw[Em e.kind J,Afg]at h;obtain⟨rfl,rfl,_⟩:=h;exact⟨L,_,u1,_,i,Em A Q,⟨Ai (e.mono i) hn hv,hc.mono i,rfl,rfl,rfl,rfl,by left;rw[finish_mode];exact T,H,by rw[finish_kind];exact p,rfl,rfl⟩,C,q,d⟩
   |skip=>rw[Aj e.kind J,Afg]at h;obtain⟨rfl,rfl,_⟩:=h;exact⟨L,_,u1,_,i,Aj A Q,⟨Ai (e.mono i) hn rE,hc.mono i,rfl,rfl,rfl,rfl,by left;rw[finish_mode];exact T,H,by rw[finish_kind];exact p,rfl,rfl⟩,C,q,d⟩
   |enter f hff hargs=>rw[xP e.kind U J,Afg]at h;obtain⟨rfl,rfl,_⟩:=h;exact⟨L,_,u1,_,i,xP A N Q,⟨KL Y hff hargs,.cons (e.mono i) hn p (hc.mono i),rfl,rfl,rfl,rfl,.inl rfl,m,.inr rfl,rfl,rfl⟩,C,q,d⟩
   |round f hl hff hc' ka kb=>rw[En e.kind J,Afg]at h;obtain⟨rfl,rfl,_⟩:=h;exact⟨L,_,u1,_,i,En A Q,⟨WO hff hl hc' ka kb,.cons (e.mono i) hn p (hc.mono i),rfl,rfl,rfl,rfl,.inl rfl,m,.inr rfl,rfl,rfl⟩,C,q,d⟩
  |halt x w2=>
   exfalso;unfold Afp at h;simp only[if_true,hke,kF,if_false,J]at h;obtain⟨hx,O⟩:=vK E W J
   cases x with
   |panic v=>obtain⟨_,D⟩:=vM h;simp only[Afg]at D;obtain⟨rfl,rfl,_⟩:=D;exact V (Ej O M)
   |stuck t=>
    obtain⟨_,D⟩:=vM h
    cases D
   |unsupported t=>
    obtain⟨_,D⟩:=vM h
    cases t with
    |initOrder n=>
     simp only[early,G.ahead,G.noStep,Afk,kF,if_false]at D
     cases D
    |_=>cases D
   |_=>exact hx
where
 finish_kind (fr:fR) (v:vL):(fr.finish v).kind=fr.kind:=by
  unfold Afm
  split<;>rfl
 finish_mode (fr:fR) (v:vL):(fr.finish v).mode=fr.mode:=by
  unfold Afm
  split<;>rfl
end
end
section
open Go.Conc (mem_seen)
section
variable {P:pQ} {I:fI->Prop} {F:fI->Bool} {Gl:Nat->Bool} {kt:List Item} {bb:Bool} {tl:List fR} {R:Rl}
def Ak(h:VRs F R fr.tmps fr'.tmps)(d:∀x,Gl x=true->R.rel x x):ER F Gl R fr.eval fr'.eval:=by
 intro x hx
 cases x with
 |tmp t=>exact h.getD t
 |const v=>exact Ee hx
 |global g=>exact .pointer (.mk 0 none (d g hx))
 |func f=>exact .func f hx rfl (λi v v' e=>by simp at e) rfl (λi v v' e=>by simp at e)
def WU{id:Nat}(h:TdR P F Gl kt bb R k k'):(Afx id k=none/\(bb=true\/Afx id k'=none))\/∃t d,Afx id k=some t/\Afx id k'=some d/\TdR P F Gl kt bb R t d:=by
 induction h with
 |nil=>exact .inl ⟨rfl,.inr rfl⟩
 |halt hb=>exact .inl ⟨rfl,.inl hb⟩
 | @cons it it' k k' hi hk ih=>
  cases hi with
  |inRange _=>exact ih
  |endRange _=>exact ih
  |same hit=>
   cases it with
   |inBlock b=>
    unfold Afx
    grind
   |_=>exact ih
def Am(h:VRs F R a a'):yielded ops a=yielded ops a':=by
 funext j
 unfold yielded
 cases p:(ops[j]?).bind (·.dst)with
 |none=>rfl
 |some d=>
  simp only[Option.bind_some]
  cases e:a[d]? with
  |none=>
   have:a'[d]? =none:=by rw[Array.getElem?_eq_none_iff]at e⊢;rw[<-h.size];exact e
   rw[this]
  |some v=>
   obtain⟨v',i,m⟩:=h.hit e;rw[i]
   cases m with
   |poison hs=>cases v'<;>first|rfl|exact hs.elim
   |_=>rfl
theorem WV(h:(match o.op with|.send .. =>true|_=>false)=true):
 Afp P true fr cs none (execOp fr.eval o) w≠.go g1 w1 es:=by
 intro m;obtain⟨p,r,A,q,d,i⟩:=o;dsimp only at h
 split at h
 ·unfold Afp at m;obtain⟨_,e⟩:=vM m
  cases e
 cases h
def Eo(h:FrR P F Gl kt R fr fr'){todo d:List Item}(e:TdR P F Gl kt fr.roundOf.isNone R todo d):FrR P F Gl kt R {fr with todo} {fr' with todo:=d}:=
 ⟨h.fn,h.known,e,h.defers,h.mode,h.kind,h.kind',h.round,h.tmps⟩
def KN(h:FrR P F Gl kt R fr fr')(m:FrameMode):FrR P F Gl kt R {fr with mode:=m} {fr' with mode:=m}:=
 ⟨h.fn,h.known,h.todo,h.defers,rfl,h.kind,h.kind',h.round,h.tmps⟩
def KO(h:FrR P F Gl kt R fr fr')(e:fr.oper?=some o):opC P F Gl o=true/\fr'.oper?=some o:=by
 have m:=h.todo;unfold Afo at e⊢
 split at e
 ·rename_i ops i p k d;rw[d]at m;generalize fr'.todo=x at m⊢
  cases m with
  |cons hi _=>
   cases hi with
   |same hit=>
    simp only[tZ,Ae0]at hit
    grind
 cases e
def Ap(H:FC P F Gl)(q:FrR P F Gl kt R fr fr')(J:∀x,Gl x=true->R.rel x x):oG P I fr:=by
 have C:∀{x:Operand} {i:Fn} {u v:Array vL} {f:fI},aU F Gl x=true->fr.eval x=.func i u v->vk i f->jE P I f:=λ{x i u v f} hx D m=>by
  have:=Ak q.tmps J x hx;rw[D]at this;generalize fr'.eval x=y at this
  cases this with
  |func g hg _ _ _ _=>obtain⟨i,b,A,h2,_⟩:=H.body g hg;have:g=f:=m;subst this;exact .inl ⟨i,A,by rw[h2];rfl⟩
  |yield _=>exact m.elim
 refine⟨λE o L f m=>?_,λE Q x S a b k M i u v f D m=>?_,λE d N O f m=>?_⟩
 ·obtain⟨e,_⟩:=KO q L;obtain⟨c,x,i,u,v,A,h2,G,h4⟩:=m;refine C (x:=x) ?_ G h4;unfold opC at e;rw[A]at e;simp only[Bool.or_false]at e;unfold opS at e
  grind
 ·have p:=q.todo;rw[M]at p;generalize fr'.todo=y at p
  cases p with
  |cons hi _=>
   cases hi with
   |same hit=>
    simp only[tZ,fE,Aal]at hit
    grind
 obtain⟨r,rfl⟩:=q.defers.marks d (by grind);exact m.elim
section
variable {mn:Bool} {fr fr':fR} {cs cs':List fR} {w u w1:wD} {g1:Goroutine} {es:Array Event}
theorem vN(hc:FrL P F Gl kt tl R cs cs')(m:∀x∈cs,x.mode=.run)(q:WR P F (KC P F Gl) R w u){d i:fR}(p:cs=[]\/d.kind=.normal)(h1:FrR P F Gl kt R d i)(A:d.mode=.run\/d.mode=.returning)(h:Adv {frame:=d,callers:=cs,status:=.running,dying:=none} w #[]=.go g1 w1 es):
 kD P F Gl kt tl R u (.go {frame:=i,callers:=cs',status:=.running,dying:=none} u #[]) g1 w1:=by
 rw[Afg]at h;obtain⟨rfl,rfl,_⟩:=h;exact⟨R,_,u,#[],.refl R,rfl,⟨h1,hc,rfl,rfl,rfl,rfl,A,m,p,rfl,rfl⟩,by rw[q.same];exact q,.refl R u,λe r=>by simp at r⟩
def xQ{α α':Type}{A:Rl->α->α'->Prop}{s:Sem α}{s':Sem α'}(hs:Sim P F (KC P F Gl) A R s s')(hw:WR P F (KC P F Gl) R w u){f':fI}{S m:GStep}(B:Result α->GStep)(M:Result α'->GStep)(V:∀r es0,s.runT P w #[]=(r,es0)->S=Ac8 (seen P f es0) (B r))(W:∀r es0,s'.runT P u #[]=(r,es0)->m=Ac8 (seen P f' es0) (M r))(Z:∀x d es0 b,s.runT P w #[]=(.halt x d,es0)->B (.halt x d)=.go g1 w1 b->False)(Y:∀p a a' d u2 es0 b,R.le p->A p a a'->WR P F (KC P F Gl) p d u2->s.runT P w #[]=(.ok a d,es0)->B (.ok a d)=.go g1 w1 b->kD P F Gl kt tl p u2 (M (.ok a' u2)) g1 w1)(h:S=.go g1 w1 es):kD P F Gl kt tl R u m g1 w1:=by
 cases q:s.runT P w #[]with
 |mk r es0=>
  rw[V r es0 q]at h;obtain⟨b,e⟩:=vM h
  cases r with
  |halt x d=>exact(Z x d es0 b q e).elim
  |ok a d=>
   obtain⟨T,a',u1,L,O,X,H,ha,G,E⟩:=hs R (.refl R) w u hw #[] a d es0 q #[];obtain⟨U,D,u3,C,Q,e4,hg,J,i,N⟩:=Y T a a' d u1 es0 b O ha H q e;rw[W _ _ X];refine⟨U,D,u3,seen P f' L++C,O.trans Q,?_,hg,J,G.trans i,λx hx=>?_⟩
   ·grind [Ac8]
   rcases Array.mem_append.1 hx with hx|hx
   ·exact(((E x (mem_seen hx)).resolve_left yW)).mono Q
   grind
def KP(r:Kn P fr.fn)(D:fr'.kind=fr.kind)(hc:FrL P F Gl kt tl R cs cs')(m:∀x∈cs,x.mode=.run)(E:cs=[]\/fr.kind=.normal)(p:WR P F (KC P F Gl) R w u)(G:VR F R v v')(h:doReturn P true fr cs none v w=.go g1 w1 es):kD P F Gl kt tl R u (doReturn P mn fr' cs' none v' u) g1 w1:=by
 obtain⟨H,A,C⟩:=r
 cases hc with
 |nil=>
  simp only[doReturn]at h
  grind
 | @cons c c' l l' hcc hch hck hll=>
  have d:fr.kind=.normal:=by grind
  have i:fr'.kind=.normal:=D.trans d;simp only[doReturn,d]at h;rw[Afg]at h;obtain⟨rfl,rfl,_⟩:=h;refine⟨R,{frame:=c'.finish v',callers:=l',status:=.running,dying:=none},u,#[],.refl R,?_,⟨Ai hcc hch G,hll,rfl,rfl,rfl,rfl,.inl ?_,λx hx=>m x (Rf _ hx),by rw[uf.finish_kind];exact hck,rfl,rfl⟩,by rw[p.same];exact p,.refl R u,λe q=>by simp at q⟩
  ·simp only[doReturn,i]
  grind [uf.finish_mode,Aah]
def oJ(P:pQ)(mn:Bool)(fr:fR)(cs:List fR)(w:wD)(d:Option Afz):GStep:=match fr.roundOf with
 |none=>if d matches none|some .ret then Adv {frame:={fr with mode:=.returning},callers:=cs,status:=.running,dying:=none} w else .ended (.stuck "exit, goto: no such block or label" (fr.pos P)) w
 |some l=>Ac8 (seen P fr.fn ((Abh l d).runT P w #[]).2)<|match ((Abh l d).runT P w #[]).1 with
  |.ok v w=>doReturn P mn fr cs none v w
  |.halt _ w=>.ended (.stuck "range over a function: no such loop" (fr.pos P)) w
def WW(J:FrR P F Gl kt R fr fr')(hc:FrL P F Gl kt tl R cs cs')(E:∀x∈cs,x.mode=.run)(G:cs=[]\/fr.kind=.normal)(L:WR P F (KC P F Gl) R w u)(i:Option Afz)(O:∀c,i=some c->KC P F Gl c)(h:oJ P true fr cs w i=.go g1 w1 es):kD P F Gl kt tl R u (oJ P mn fr' cs' u i) g1 w1:=by
 obtain⟨fn,tmps,todo,defers,mode,kind,H⟩:=fr;obtain⟨D,q,A,d,p,m,C⟩:=fr';have Q:RoR R H C:=J.round;unfold oJ at h⊢
 cases Q with
 |none=>
  dsimp only at h⊢
  split at h
  ·simp only[if_true]at h⊢;exact vN hc E L (by exact G) (KN J .returning) (.inr rfl) h
  ·simp only[if_true]at h⊢;exact vN hc E L (by exact G) (KN J .returning) (.inr rfl) h
  grind
 |some hl=>
  dsimp only at h⊢;rename_i l l';refine xQ (WG hl i O) L (f:=fn) (f':=D)
   (λr=>match r with|.ok v w=>doReturn P true {fn,tmps,todo,defers,mode,kind,roundOf:=some l} cs none v w|.halt _ w=>.ended (.stuck "range over a function: no such loop" (Afw P {fn,tmps,todo,defers,mode,kind,roundOf:=some l})) w)
   (λr=>match r with|.ok v w=>doReturn P mn {fn:=D,tmps:=q,todo:=A,defers:=d,mode:=p,kind:=m,roundOf:=some l'} cs' none v w|.halt _ w=>.ended (.stuck "range over a function: no such loop" (Afw P {fn:=D,tmps:=q,todo:=A,defers:=d,mode:=p,kind:=m,roundOf:=some l'})) w)
   (λr es0 e=>by rw[e]) (λr es0 e=>by rw[e]) ?_ ?_ h
  ·grind
  intro T a a' U u2 es0 b S N M _ e;exact KP J.known J.kind' (hc.mono S) E G M N e
def WX(G:Good P I)(p:FC P F Gl)(J:∀x,Gl x=true->R.rel x x)(m:FrR P F Gl kt R fr fr')(L:fr.mode=.run)(hc:FrL P F Gl kt tl R cs cs')(q:∀x∈cs,x.mode=.run)(A:cs=[]\/fr.kind=.normal)(N:WR P F (KC P F Gl) R w u)(E:Started w){df:Bool}(D:∀o,fr.oper?=some o->eY df o=true)(h:Aft P true fr cs none w=.go g1 w1 es)(r:¬dZ P g1 w1):
 kD P F Gl kt tl R u (Aft P true fr' cs' none u) g1 w1:=by
 unfold Aft at h⊢
 cases d:fr.oper? with
 |none=>rw[d]at h;cases h
 |some o=>
  obtain⟨i,C⟩:=KO m d;rw[d]at h;rw[C];have O:∀c,o.op≠.defer c:=λc e=>by
   unfold opC opS at i
   grind
  have M:Afp P true fr cs none (execOp fr.eval o) w=.go g1 w1 es:=by grind
  have Q:∀(x y:GStep),(match fr'.roundOf,o.op with|some _,.defer _=>x|_,_=>y)=y:=λx y=>by grind
  dsimp only
  split
  ·rename_i l c _ e;exact absurd e (O c)
  unfold opC at i
  rcases Afd _ _▸i with H|H
  ·exact uf G p m (λe=>by rw[Afo,e]at d;cases d) L hc q A (Ah p.ok H (Ak m.tmps J)) (xB G.funcs G.methods _ (λ_=>rfl) o ((Ap (I:=I) p m J).oper L o d) (D o d)) N E M r
  grind [WV]
def Aq{c:Operand}{a:Afz}(e:fr.todo=.code (.cond c a b)::k)(cs:List fR)(w:wD):
 Afu P mn true fr cs none w=match fr.eval c with|.bool t=>.go {frame:={fr with todo:=.code (if t then a else b)::k},callers:=cs,status:=.running,dying:=none} w #[]|_=>.ended (.stuck "cond: bool expected" (fr.pos P)) w:=by
 simp only[Afu,e]
 grind
theorem Ep{id:Nat}(e:fr.todo=.code (.exit id)::k)(cs:List fR)(w:wD):
 Afu P mn true fr cs none w=match Afx id k with|some t=>.go {frame:={fr with todo:=t},callers:=cs,status:=.running,dying:=none} w #[]|none=>oJ P mn fr cs w (some (.exit id)):=by
 simp only[Afu,e]
 cases Afx id k with
 |some t=>rfl
 |none=>unfold oJ;cases fr.roundOf<;>rfl
def KQ{id:Nat}(e:fr.todo=.code (.region id ops true)::k)(cs:List fR)(w:wD):
 Afu P mn true fr cs none w=.go {frame:={fr with todo:=.inRegion ops (Region.schedule (P.follows .mixedOrders) ops (w.tape w.drawn (.order fr.fn id)))::k},callers:=cs,status:=.running,dying:=none} {w with drawn:=w.drawn+1} #[]:=by
 simp only[Afu,e];rfl
def Es{i:Nat}{d:List Nat}(e:fr.todo=.inRegion ops (i::d)::k)(cs:List fR)(w:wD):
 Afu P mn true fr cs none w=if ((ops[i]?).map (Region.wanted · (yielded ops fr.tmps))).getD false then Aft P true fr cs none w else .go {frame:=fr.finish undef,callers:=cs,status:=.running,dying:=none} w #[]:=by
 simp only[Afu,e]
def Eu(e:fr.todo=.beginRound::k)(cs:List fR)(w:wD):
 Afu P mn true fr cs none w=Afp P true fr cs none (do fr.roundOf.elim (stuck "beginRound: no round") Aar;pure .skip) w:=by
 simp only[Afu,e]
def rangeCall(fr:fR)(f:Operand)(l:Nat):Sem Next:=do
 let d <-resolve fr.eval {callee:=.value f,args:=#[.const (.func (.yield l) #[] #[])],argTypes:=#[]} 0
 invoke d.target d.args
def Ew{f:Operand}{ps:Array Tmp}{a:Afz}(e:fr.todo=.code (.rangeFunc f ps a b)::k)(cs:List fR)(w:wD){r:Result (Nat×List Deferred)}(hr:(Aa1 fr.fn fr.tmps ps a b fr.roundOf).runT P w #[]=(r,es)):
 Afu P mn true fr cs none w=Ac8 (seen P fr.fn es) (match (generalizing:=false) r with
  |.ok p w=>Afp P true {fr with todo:=.inRangeFunc p.1::k,defers:=p.2++fr.defers} cs none (rangeCall {fr with todo:=.inRangeFunc p.1::k,defers:=p.2++fr.defers} f p.1) w
  |.halt _ w=>.ended (.stuck "range over a function: no such loop" (fr.pos P)) w):=by
 simp only[Afu,e,hr]
 cases r<;>rfl
def WY(m:FC P F Gl){f:Operand}(p:aU F Gl f=true)(i:ER F Gl R fr.eval fr'.eval)(q:R.rel l l'):Sim P F (KC P F Gl) (λR n r=>jg F (KC P F Gl) R n r) R (rangeCall fr f l) (rangeCall fr' f l'):=by
 have e:∀(fr:fR) (l:Nat),rangeCall fr f l=(do let d <-Deferred.ofValue (fr.eval f) #[.func (.yield l) #[] #[]];invoke d.target d.args):=λfr l=>by
  unfold rangeCall resolve;have:(#[Operand.const (.func (.yield l) #[] #[])].map fr.eval:Array vL)=#[.func (.yield l) #[] #[]]:=by simp[Afs]
  grind
 rw[e,e];exact Kv m.ok (i f p) (VRs.one (.yield q))
def WZ(G:Good P I)(hF:FC P F Gl)(hL:oG P I fr)(C:FrR P F Gl kt R fr fr')(S:bI fr)(hE:ER F Gl R fr.eval fr'.eval)(hm:fr.mode=.run)(hc:FrL P F Gl kt tl R cs cs')(O:∀x∈cs,x.mode=.run)(V:cs=[]\/fr.kind=.normal)(hw:WR P F (KC P F Gl) R w u)(X:Started w){f:Operand}{ps:Array Tmp}{a:Afz}(Z:fr.todo=.code (.rangeFunc f ps a b)::k)(M:fr'.todo=.code (.rangeFunc f ps a b)::k')(q:tZ P F Gl (.code (.rangeFunc f ps a b))=true)(hk:TdR P F Gl kt fr.roundOf.isNone R k k')(h:Afu P true true fr cs none w=.go g1 w1 es)(U:¬dZ P g1 w1):
 kD P F Gl kt tl R u (Afu P mn true fr' cs' none u) g1 w1:=by
 have D:lK fr.roundOf.isNone (.code (.rangeFunc f ps a b)):=S.items _ (by grind);have m:(fr.roundOf.isNone&&codeOk false a&&codeOk false b)=true:=D;simp only[tZ,fE,Aal]at q m;have W:fr.roundOf=none:=Option.isNone_iff_eq_none.1 m.1.1;have E:Sim P F (KC P F Gl) (λR p J=>R.rel p.1 J.1/\DfR R p.2 J.2) R (Aa1 fr.fn fr.tmps ps a b fr.roundOf) (Aa1 fr'.fn fr'.tmps ps a b fr'.roundOf):=by rw[C.fn];exact Wy C.known C.tmps ps q.1.2 q.2 C.round
 refine xQ E hw _ _ (λr es0 e=>Ew Z cs w e) (λr es0 e=>Ew M cs' u e) ?_ ?_ h
 ·grind
 intro R1 p J w2 u2 es0 bb L N Y hx e;obtain⟨_,H⟩:=vK (Jt _ _ _ _ _ _ m.1.2 m.2) X hx;have i:=C.mono L;have T:FrR P F Gl kt R1 {fr with todo:=.inRangeFunc p.1::k,defers:=p.2++fr.defers} {fr' with todo:=.inRangeFunc J.1::k',defers:=J.2++fr'.defers}:=
  ⟨i.fn,i.known,.cons (.inRange N.1) (hk.mono L),N.2.append i.defers,i.mode,i.kind,i.kind',i.round,i.tmps⟩
 refine uf G hF T yW hm (hc.mono L) O V (aY (WY hF q.1.1 (ER.mono hE L) N.1)) ?_ Y H e U;refine jD (xA _ _ _) λd A=>?_;obtain⟨A,hd⟩:=A;refine zC G.funcs G.methods _ ?_ (λg hg=>by
  obtain⟨x,fn,u,v,e1,e2,e3⟩:=A g hg
  cases e1
  exact hL.range hm W _ _ _ _ _ Z fn u v g e2 e3) _
 have Q:d.good:=hd;unfold Deferred.good at Q
 grind
def W9(G:Good P I)(hF:FC P F Gl)(hG:∀x,Gl x=true->R.rel x x)(O:FrR P F Gl kt R fr fr')(X:bI fr)(V:fr.mode=.run)(hc:FrL P F Gl kt tl R cs cs')(M:∀x∈cs,x.mode=.run)(J:cs=[]\/fr.kind=.normal)(L:WR P F (KC P F Gl) R w u)(T:Started w)(h:Afu P true true fr cs none w=.go g1 w1 es)(W:¬dZ P g1 w1):
 kD P F Gl kt tl R u (Afu P mn true fr' cs' none u) g1 w1:=by
 have hL:oG P I fr:=Ap hF O hG;have ad:∀o,fr.oper?=some o->eY fr.roundOf.isNone o=true:=by
  intro o ho;unfold Afo at ho
  split at ho
  ·rename_i ops i ab k ac
   have:=X.items _ (by rw[ac];exact Aah ..);simp only[lK,Ae0]at this
   grind
  cases ho
 have ah:=WX G hF hG O V hc M J L T ad (g1:=g1) (w1:=w1) (es:=es);have N:∀C,(∀c,C=some c->KC P F Gl c)->oJ P true fr cs w C=.go g1 w1 es->kD P F Gl kt tl R u (oJ P mn fr' cs' u C) g1 w1:=λC hj e=>WW O hc M J L C hj e;have hE:ER F Gl R fr.eval fr'.eval:=Ak O.tmps hG;obtain⟨fn,tmps,todo,defers,mode,kind,p⟩:=fr;obtain⟨A,E,H,q,m,d,D⟩:=fr';obtain⟨q1,q2,q3,q5,q7,q8,q9,aa,ag⟩:=id O;simp only at q1 q2 q3 q5 q7 q8 q9 aa ag V hE;subst q1 q7 q9;have Q:∀todo H,TdR P F Gl kt p.isNone R todo H->Adv {frame:={fn:=A,tmps,todo,defers,mode:=m,kind:=d,roundOf:=p},callers:=cs,status:=.running,dying:=none} w #[]=.go g1 w1 es->
  kD P F Gl kt tl R u (.go {frame:={fn:=A,tmps:=E,todo:=H,defers:=q,mode:=m,kind:=d,roundOf:=D},callers:=cs',status:=.running,dying:=none} u #[]) g1 w1:=λtodo H ht e=>vN hc M L (by exact J) (Eo O ht) (.inl V) e
 cases q3 with
 |halt _=>rw[Aq rfl]at h;cases h
 |nil=>exact N none (λc e=>by cases e) h
 | @cons it it' k k' hi hk=>
  cases hi with
  |inRange hl=>cases h
  | @endRange l l' hl=>
   refine xQ (WH hl) L (f:=A) (f':=A)
    (λr=>match r with|.ok C w=>.go {frame:={fn:=A,tmps,todo:=(C.map Item.code).toList++k,defers,mode:=m,kind:=d,roundOf:=p},callers:=cs,status:=.running,dying:=none} w|.halt (.panic v) w=>.go {frame:=Afn {fn:=A,tmps,todo:=.endRangeFunc l::k,defers,mode:=m,kind:=d,roundOf:=p} [{v,recovered:=false}],callers:=cs,status:=.running,dying:=none} w|.halt _ w=>.ended (.stuck "range over a function: no such loop" (Afw P {fn:=A,tmps,todo:=.endRangeFunc l::k,defers,mode:=m,kind:=d,roundOf:=p})) w)
    (λr=>match r with|.ok C w=>.go {frame:={fn:=A,tmps:=E,todo:=(C.map Item.code).toList++k',defers:=q,mode:=m,kind:=d,roundOf:=D},callers:=cs',status:=.running,dying:=none} w|.halt (.panic v) w=>.go {frame:=Afn {fn:=A,tmps:=E,todo:=.endRangeFunc l'::k',defers:=q,mode:=m,kind:=d,roundOf:=D} [{v,recovered:=false}],callers:=cs',status:=.running,dying:=none} w|.halt _ w=>.ended (.stuck "range over a function: no such loop" (Afw P {fn:=A,tmps:=E,todo:=.endRangeFunc l'::k',defers:=q,mode:=m,kind:=d,roundOf:=D})) w)
    (λr es0 e=>by simp only[Afu,e];rfl) (λr es0 e=>by simp only[Afu,e];rfl) ?_ ?_ h
   ·intro x w2 es0 b hx e
    obtain⟨_,Y⟩:=vK (Jr l) T hx
    cases x with
    |panic v=>simp only[Afg]at e;obtain⟨rfl,rfl,_⟩:=e;exact W (Ej Y λx hx=>(FrL.cons O yW J hc).all x hx)
    |_=>cases e
   intro R1 a a' w2 u2 es0 b l1 ha af _ e
   obtain⟨rfl,hj⟩:=ha;have e:Adv {frame:={fn:=A,tmps,todo:=(a.map Item.code).toList++k,defers,mode:=m,kind:=d,roundOf:=p},callers:=cs,status:=.running,dying:=none} w2 #[]=.go g1 w1 b:=e;refine vN (hc.mono l1) M af (by exact J) (Eo (O.mono l1) ?_) (.inl V) e
   cases a with
   |none=>exact hk.mono l1
   |some c=>exact .cons (.same (hj c rfl)) (hk.mono l1)
  |same hit=>
   cases it with
   |code c=>
    cases c with
    |ret=>exact N (some .ret) (λc e=>by cases e;rfl) h
    |skip=>exact Q _ _ hk h
    |label l=>exact Q _ _ hk h
    |seq a b=>simp only[tZ,fE,Aal]at hit;exact Q _ _ (.cons (.same (it:=.code a) hit.1) (.cons (.same (it:=.code b) hit.2) hk)) h
    |cond c a b=>
     simp only[tZ,fE,Aal]at hit;have U:=hE c hit.1.1;rw[Aq rfl]at h;rw[Aq rfl];generalize Afs {fn:=A,tmps:=tmps,todo:=Item.code (Code.cond c a b)::k,defers,mode:=m,kind:=d,roundOf:=p} c=v at h U;generalize Afs {fn:=A,tmps:=E,todo:=Item.code (Code.cond c a b)::k',defers:=q,mode:=m,kind:=d,roundOf:=D} c=v' at U⊢
     cases U with
     |bool t=>
      simp only at h⊢;refine Q _ _ (.cons (.same (it:=.code (if t then a else b)) ?_) hk) h
      cases t
      ·exact hit.2
      exact hit.1.2
     |_=>cases h
    |block id c=>exact Q _ _ (.cons (.same (it:=.code c) hit) (.cons (.same (it:=.inBlock id) rfl) hk)) h
    |loop c=>exact Q _ _ (.cons (.same (it:=.code c) hit) (.cons (.same (it:=.inLoop c) hit) hk)) h
    |scope c=>exact Q _ _ (.cons (.same (it:=.code c) hit) (.cons (.same (it:=.inScope c) hit) hk)) h
    |exit id=>
     rw[Ep rfl]at h;rw[Ep rfl]
     rcases WU (id:=id) hk with⟨h1,h2⟩|⟨t,t',h1,h2,ht⟩
     ·rw[h1]at h
      rcases h2 with h2|h2
      ·have ae:p=none:=Option.isNone_iff_eq_none.1 h2
       subst ae
       cases h
      rw[h2]
      exact N (some (.exit id)) (λc e=>by cases e;rfl) h
     grind
    |region id ops draw=>
     cases draw with
     |false=>exact Q _ _ (.cons (.same (it:=.inRegion ops (List.range ops.size)) hit) hk) h
     |true=>
      rw[KQ rfl]at h;rw[KQ rfl];have Z:WR P F (KC P F Gl) R {w with drawn:=w.drawn+1} {u with drawn:=u.drawn+1}:=⟨L.dom,L.fn,L.inj,L.objs,L.glob,L.tape,by simp only[L.drawn],L.bigW,L.bigU⟩;have eq:w.tape w.drawn (.order A id)=u.tape u.drawn (.order A id):=by rw[L.tape,L.drawn]
      simp only at h⊢;rw[eq,Afg]at h;obtain⟨rfl,rfl,_⟩:=h;exact⟨R,_,_,_,.refl R,rfl,⟨Eo O (.cons (.same (it:=.inRegion ops _) hit) hk),hc,rfl,rfl,rfl,rfl,.inl V,M,J,rfl,rfl⟩,by rw[Z.same];exact Z,⟨Nat.le_refl _,λ_ _ _=>rfl,λb'=>⟨.inl,λh=>h.elim (λy=>y) λx=>absurd x.2 (Nat.not_lt.2 x.1)⟩,λ_ _ h=>.inl h,⟨rfl,rfl,rfl⟩,λ_ _ h=>h⟩,λe he=>by simp at he⟩
    |rangeFunc f ps a b=>exact WZ G hF hL O X hE V hc M J L T rfl rfl hit hk h W
    |_=>cases hit
   |inRegion ops l=>
    cases l with
    |nil=>exact Q _ _ hk h
    |cons i ab=>
     rw[Es rfl]at h;rw[Es rfl];simp only at h⊢;rw[<-Am (ops:=ops) O.tmps]
     split
     ·rename_i S
      grind
     rename_i S
     rw[if_neg S]at h;have ai:=Ai O yW (v:=undef) (v':=undef) rE
     grind [vN,uf.finish_kind,uf.finish_mode]
   |inBlock b=>exact Q _ _ hk h
   |inLoop c=>exact Q _ _ (.cons (.same (it:=.code c) hit) (.cons (.same (it:=.inLoop c) hit) hk)) h
   |inScope c=>exact Q _ _ hk h
   |beginRound=>
    rw[Eu rfl]at h;rw[Eu rfl];refine uf G hF O yW V hc M J (aY ?_) ?_ L T h W
    ·cases aa with
     |none=>exact ay (dB (au _)) _
     |some hl=>exact Ku (WC hl)
    cases p with
    |none=>exact trivial
    |some l=>exact aK (Js l) λ_=>trivial
   |_=>cases hit
def Xa(i:FrR P F Gl kt R fr fr')(M:fr.mode=.returning)(hc:FrL P F Gl kt tl R cs cs')(p:∀x∈cs,x.mode=.run)(D:cs=[]\/fr.kind=.normal)(T:WR P F (KC P F Gl) R w u)(h:unwind P true fr cs none w=.go g1 w1 es):kD P F Gl kt tl R u (unwind P mn fr' cs' none u) g1 w1:=by
 obtain⟨Q,A,U⟩:=i.known;have N:fr'.mode=.returning:=i.mode.trans M;have C:P.funcs[fr'.fn]? =some Q:=by rw[i.fn];exact A
 have J:=i.defers;generalize S:fr.defers=q at J;generalize E:fr'.defers=W at J
 cases J with
 |nil=>
  refine xQ (D8 Q i.tmps) T (f:=fr.fn) (f':=fr'.fn)
   (λr=>match r with|.ok v w=>doReturn P true fr cs none v w|.halt (.stuck s) w=>.ended (.stuck s (fr.pos P)) w|.halt _ w=>.ended (.stuck "return: the result variables cannot be read" (fr.pos P)) w)
   (λr=>match r with|.ok v w=>doReturn P mn fr' cs' none v w|.halt (.stuck s) w=>.ended (.stuck s (fr'.pos P)) w|.halt _ w=>.ended (.stuck "return: the result variables cannot be read" (fr'.pos P)) w)
   (λr es0 e=>by unfold unwind;rw[S,M];simp only[A,e];rfl) (λr es0 e=>by unfold unwind;rw[E,N];simp only[C,e];rfl) ?_ ?_ h
  ·grind
  intro O a a' V u2 es0 b G H m _ e;exact KP i.known i.kind' (hc.mono G) p D m H e
 | @cons r r' ds ds' hr hds=>
  refine xQ (Kz hr) T (f:=fr.fn) (f':=fr'.fn)
   (λx=>match x with|.ok calls w=>.go {frame:={fr with defers:=calls++ds},callers:=cs,status:=.running,dying:=none} w|.halt _ w=>.ended (.stuck "the deferred calls of a range-over-func loop have been taken" (fr.pos P)) w)
   (λx=>match x with|.ok calls w=>.go {frame:={fr' with defers:=calls++ds'},callers:=cs',status:=.running,dying:=none} w|.halt _ w=>.ended (.stuck "the deferred calls of a range-over-func loop have been taken" (fr'.pos P)) w)
   (λx es0 e=>by unfold unwind;rw[S];simp only[e];rfl) (λx es0 e=>by unfold unwind;rw[E];simp only[e];rfl) ?_ ?_ h
  ·grind
  intro O a a' V u2 es0 b G H m _ e;obtain⟨rfl,rfl⟩:=H;have d:=i.mono G;have L:FrR P F Gl kt O {fr with defers:=ds} {fr' with defers:=ds'}:=⟨d.fn,d.known,d.todo,hds.mono G,d.mode,d.kind,d.kind',d.round,d.tmps⟩;exact vN (hc.mono G) p m (by exact D) L (.inr M) e
end
def KR(G:Good P I)(L:FC P F Gl)(M:∀x,Gl x=true->R.rel x x){g':Afv}{u:wD}(N:GoK P F Gl kt tl R g g')(r:jR g)(E:WR P F (KC P F Gl) R w u)(C:Started w)(h:stepG P true g w=.go g1 w1 es)(A:¬dZ P g1 w1):kD P F Gl kt tl R u (stepG P mn g' u) g1 w1:=by
 obtain⟨fr,cs,T,S,O⟩:=g;obtain⟨fr',cs',Q,J,H⟩:=g';obtain⟨q,hc,_,_,D,p,d,e,m,_,_⟩:=N;simp only at q hc D p d e m;subst D p;unfold stepG at h⊢
 rcases d with d|d
 ·have i:=q.mode.trans d;simp only[d]at h;simp only[i];exact W9 G L M q r.frame d hc e m E C h A
 have i:=q.mode.trans d;simp only[d]at h;simp only[i];exact Xa q d hc e m E h
end
end
end Go.Tp
