/- Part of a proof; no conditions. -/
import Derived.Test.YtokgkggocgpcfaaGreatDoorCheap04
import Derived.Test.YtokgkggocgpcfaaGreatDoorChecked
import Derived.Conc.WgGenN3
import Derived.Conc.WgGenN2
import Derived.Conc.Own2
import Derived.Below
import Derived.Conc.PipeWords
import Derived.Conc.EventLaws2
import Derived.Conc.CompanyWords
import Derived.Great.Frames
import Derived.DuoClaim
import Derived.Lib.Hide
import Derived.IntWalk
open List renaming getElem?_cons_zero->Ad5,range->Aes
open Array renaming getElem?_eq_some_iff->aS,sizeOf_lt_of_mem->Agq,mem_iff_getElem->Agr,mem_of_getElem?->Af3,replicate_succ->Ags,replicate_zero->Agt,getElem?_map->Aea,replicate->Afc,swapAt!->Ael,getElem?_eq_getElem->aG
open Option renaming map_eq_some_iff->Ht,getD_some->Agx,map_some->Aaw
open Go.Conc renaming stepG_unwind_entry->Agu,stepG_region_end->Agv,stepG_markAt->Ag4,stepG_mark0->Ag5,stepG_skip->Ahe,stepG_ret'->Ahf,stepG_seq->Ahn,awake_of->Aho,listed->Aht
open Nat renaming le_refl->nR,eq_zero_or_pos->Af6,lt_succ_self->Agw,strongRecOn->Agz,le_trans->Agd,lt_of_lt_of_le->nL
open Option.some renaming injEq->oI,inj->Agy
open Go.Frame renaming finish_at->Ag0,enter->Ac9,«at»->Ahr
open Go.Ending renaming returned->Ag1
open Go.Region renaming wanted->Ag2
open Go.Conc.Goes renaming running->Ag3,stop->Ahm
open Go.World renaming cell?->Aeq
open Go.GStep renaming after->Ac8,goes->Ahg
open Go.ConcR.Gen renaming x_disable_n->Ag6,x_disable_b->Ag7,x_disable_x->Ag8,x_disable_f->Ag9,x_loadU64_n->Aha,x_loadU64_b->Ahb,x_loadU64_x->Ahc,x_loadU64_f->Ahd,x_enable_n->Ahh,x_enable_b->Ahi,x_enable_x->Ahj,x_enable_f->Ahk
open Go.stepG renaming exec->Afu
open Go.Value renaming bool->Ahl
open Go renaming Addr->aD,Frame->fR,FuncId->fI,Goroutine->gO,Program->pQ,Value->vL,World->wD,Question->Ahp,yielded->Ahs,TypeId->Ahu,execOp->Ahv,runN->Aez,undef->ud
open Go.Act renaming eval->Ahq
open Go.ConcN.RW renaming refl->Ago
open Go.IntKind renaming i64->qi
open Go.Proofs.Tryz
set_option maxRecDepth 100000
set_option maxHeartbeats 4000000
noncomputable section
set_option linter.all false
namespace Go.Tp
open Go.Conc Go.ConcN
variable {u u':wD} {j k i ρ:Nat} {H:Nat->Hold} {t:Trace} {g:gO}
section
open Go.ConcR (KK WgAt stA smA rd wr Payload)
structure Trees {X:Type} (T:Nat->X->Prop) (Node:Nat->(X->Prop)->X->Prop):Prop where
 mono:∀i (Ψ Ψ':X->Prop) x,(∀y,Ψ y->Ψ' y)->Node i Ψ x->Node i Ψ' x
 ind:∀i (Ψ:X->Prop),(∀x,T i x->Node i (λy=>T i y/\Ψ y) x->Ψ x)->∀x,T i x->Ψ x
def Trees.shift{X:Type}{T:Nat->X->Prop}{e:Nat->(X->Prop)->X->Prop}(h:Trees T e):Trees (λi=>T (i+1)) (λi=>e (i+1)):=⟨λi=>h.mono (i+1),λi=>h.ind (i+1)⟩
theorem EH{X:Type}:∀(n:Nat) {T:Nat->X->Prop} {e:Nat->(X->Prop)->X->Prop} (_:Trees T e) (p:List (Option X)->Prop)
 (_:∀l,(∀i x,l[i]? =some (some x)->T i x/\e i (λy=>T i y/\p (l.set i (some y))) x)->p l) (l:List (Option X)),l.length=n->(∀i x,l[i]? =some (some x)->T i x)->p l
 |0,_,_,_,p,H,l,hl,_=>by grind
 |n+1,T,e,tr,p,H,l,hl,hT=>by
  cases l with
  |nil=>cases hl
  |cons o xs=>
   have m:xs.length=n:=by simpa using hl
   cases o with
   |none=>
    refine EH n tr.shift (λf=>p (none::f)) (λf h=>H (none::f) λi x hx=>?_) xs m λi x hx=>hT (i+1) x (by grind)
    grind
   |some x=>
    refine tr.ind 0 (λx=>∀f:List (Option X),f.length=n->(∀i y,f[i]? =some (some y)->T (i+1) y)->p (some x::f)) (λx hx M f s E=>?_) x (hT 0 x rfl) xs m λi y G=>hT (i+1) y (by grind);refine EH n tr.shift (λr=>r.length=n->(∀i y,r[i]? =some (some y)->T (i+1) y)->p (some x::r)) (λr h N J=>H (some x::r) λi O A=>?_) f s E s E
    cases i with
    |zero=>simp only[Ad5,oI]at A;subst A;exact⟨hx,tr.mono 0 _ _ x (λy G=>⟨G.1,G.2 r N J⟩) M⟩
    |succ i=>grind
def Xp(P:pQ)(mn:Bool)(Stop:Hold->gO->wD->Prop)(Ψ:Hold×gO×wD->Prop)(x:Hold×gO×wD):Prop:=
 x.2.1.status=.running/\((∀u',Off x.1 x.2.2 u'->Stop x.1 x.2.1 u')\/∀u',Off x.1 x.2.2 u'->∃y,Ar P mn x.1 x.2.1 u' y/\Ψ y)
def Xq(P:pQ)(mn:Nat->Bool)(Stop:Nat->Hold->gO->wD->Prop):Trees (λi=>aH P (mn i) (Stop i)) (λi=>Xp P (mn i) (Stop i)):=by
 refine⟨λi r s x h hn=>⟨hn.1,hn.2.imp id λh2 u' f=>let ⟨y,m,h4⟩:=h2 u' f;⟨y,m,h y h4⟩⟩,λi r H x hx=>?_⟩
 induction hx with
 |stop e h2=>exact H _ (.stop e h2) ⟨e,.inl h2⟩
 |step next e h2 m p=>exact H _ (.step next e h2 m) ⟨e,.inr λu' f=>⟨next u',m u' f,h2 u' f,p u' f⟩⟩
section
variable [Payload] {P:pQ} {φ:Ph} {Fin:Hold->gO->wD->Prop} {u0:wD} {tag:Tg} {blk:Bool} {D:Nat->KD} {l:List (Option X)} {gs:Array gO} {u:wD} {t:Trace} {q:Nat->Nat} {H:Nat->Hold}
def Xr{C n:Nat}(h:PayAt C n u)(r:k<n)(v:vL):AsideCell C n k u (u.setCell ⟨C,k,none⟩ v)/\Has C k v (u.setCell ⟨C,k,none⟩ v):=by
 obtain⟨cs,hc,hn⟩:=h;have e:=aside_setCell u ⟨C,k,none⟩ v;have f:(u.setCell ⟨C,k,none⟩ v).heap[C]? =some (.cells (cs.setIfInBounds k v) Payload.ety):=by simp[World.setCell,Array.getElem?_modify,hc]
 refine⟨⟨e.tape,e.os,e.output,e.size,λb m=>e.block b m,λ_=>⟨_,f,by simpa using hn⟩,λs p=>?_⟩,?_⟩
 ·simp only[Aeq,f,hc]
  grind
 show Aeq _ _=_
 grind [Aeq]
theorem oK.running{d:KD}(h:oK P φ k d g u)(h2:2<=d.stage):g.status=.running:=by
 rcases h with⟨_,_,f⟩|⟨_,e⟩
 ·exact Ag3 (λ_ _ x=>x.1) u (Ago u) f
 generalize d.stage=s at e h2;generalize d.fuel=m at e;generalize d.deaf=p at e
 cases e with
 |r0 h=>exact Ag3 (λ_ _ x=>x.1) u (Ago u) h
 |k1 h=>exact Ag3 (λ_ _ x=>x.1) u (Ago u) h
 |d1 h=>exact Ag3 (λ_ _ x=>x.1) u (Ago u) h
 |d2 h=>exact Ag3 (λ_ _ x=>x.1) u (Ago u) h
 |d3 h=>exact Ag3 (λ_ _ x=>x.1) u (Ago u) h
 |d4 h=>exact Ag3 (λ_ _ x=>x.1) u (Ago u) h
 |quit h=>omega
def aO.kidRun(h:aO P φ u0 tag blk D l gs u t q H)(m:k<tag.started φ.n)(h2:2<=(D k).stage):∃g,gs[φ.f.n0+k]? =some g/\g.status=.running:=by
 obtain⟨g,e,_,f⟩:=h.kid k m
 rcases f with⟨_,_,_,_,_,_,_,c⟩|⟨_,_,c⟩
 ·grind
 exact⟨g,e,c.sit.running h2⟩
omit [Payload] in
theorem exists_counted:∀{j:Nat} {D:Nat->KD},1<=VK j D->∃k,k<j/\5<=(D k).stage
 |0,D,h=>by simp[VK,sumTo]at h
 |j+1,D,h=>by
  by_cases e:5<=(D j).stage
  ·grind
  have:1<=VK j D:=by
   have f:1<=sumTo j (λi=>dJ (D i))+dJ (D j):=h;have c0:dJ (D j)=0:=by simp[dJ,e]
   rw[c0]at f;exact f
  obtain⟨k,m,h5⟩:=exists_counted this
  grind
def aO.someRun(h:aO P φ u0 tag blk D l gs u t q H)(r:blk=true->∃p,WgAt φ.tw φ.f.Wg u p 0):∃(i:Nat) (g:gO),gs[i]? =some g/\g.status=.running:=by
 obtain⟨Q,M,A,N,O,E⟩:=h.main
 cases blk with
 |false=>exact⟨0,_,A,E⟩
 |true=>
  obtain⟨e,_⟩:=h.blocked rfl;subst e;obtain⟨J,m⟩:=r rfl;obtain⟨p,G,y,x⟩:=h.mode;have f:G=0:=(y.unique m).2
  cases x with
  |opn q1 _ _ _=>exact q1.elim
  |reg q1 q2 q3=>
   obtain⟨k,s,h5⟩:=exists_counted q3;obtain⟨g,a,b⟩:=h.kidRun s zP
   grind
  |last L q1 q2 q3 q4=>
   obtain⟨g,a,b⟩:=h.kidRun q2 zP
   grind
  |sema _ _=>exact absurd f zE
  |fin q1 _=>exact q1.elim
theorem aO.awake(h:aO P φ u0 tag blk D l gs u t q H):∀g∈gs,awake g:=by
 intro g r;obtain⟨i,A,rfl⟩:=Agr.1 r;have f:gs[i]? =some gs[i]:=by grind
 have s:=h.size;by_cases y:i=0
 ·subst y;obtain⟨O,E,G,J,M,N⟩:=h.main
  grind [oI,Aho]
 by_cases hn:i<φ.f.n0
 ·obtain⟨_,g,h2,m⟩:=h.leav i zP hn;rw[f,oI]at h2;rw[h2];exact Aho (m.status.elim .inl λx=>.inr (.inr x))
 obtain⟨g,p,_,m⟩:=h.kid (i-φ.f.n0) zP;have e:φ.f.n0+(i-φ.f.n0)=i:=zP
 rw[e,f,oI]at p;rw[p]
 rcases m with⟨_,_,_,_,_,_,_,c⟩|⟨_,_,c⟩
 ·grind [Aho]
 exact Aho (c.sit.status.elim .inl λx=>.inr (.inr x))
structure iF (φ:Ph) (H00:Hold) (u0 u:wD) (j:Nat) (H:Nat->Hold):Prop where
 keep:∀b,b<u0.heap.size->b≠φ.f.Wg->b≠φ.f.C->¬H00.mine b->u.heap[b]? =u0.heap[b]?
 m0:∀b,(H 0).mine b->H00.mine b\/u0.heap.size<=b
 kids:∀k,k<j->∀b,(H (φ.f.n0+k)).mine b->u0.heap.size<=b
def rF(P:pQ)(φ:Ph)(Fin:Hold->gO->wD->Prop)(H00:Hold)(u0:wD)(gs:Array gO)(u:wD)(sl:Option (Nat×Nat))(t:Trace):Prop:=
 ∃(N:Nat) (e:Array gO) (f:Nat->Hold) (m:gO) (u':wD) (p:Option (Nat×Nat)) (r:Trace) (s:Nat->Nat) (D:Nat->KD),
  runNT P N (crowd gs u sl) t=(.next (crowd e u' p),r)/\e.size=φ.f.n0+φ.n/\e[0]? =some m/\m.status=.running/\Fin (f 0) m u'/\Leavers P r e s/\
   Past (bW λb=>φ.f.dead b\/b=φ.f.Wg) u'.heap.size r/\(∀k,k<φ.n->Has φ.f.C k (D k).val u'/\φ.val k (D k).val (f (φ.f.n0+k)).mine u')/\WgAt φ.tw φ.f.Wg u' 0 0/\PayAt φ.f.C φ.n u'/\iF φ H00 u0 u' φ.n f/\
   fZ φ.f (λx=>x=0\/∃k,k<φ.n/\x=φ.f.n0+k) f/\(∀x b,(x=0\/∃k,k<φ.n/\x=φ.f.n0+k)->(f x).mine b\/(f x).sh b->b<u'.heap.size)/\
   (∀b,φ.f.dead b->b<u'.heap.size)/\(u0.heap.size<=u'.heap.size/\u'.tape=u0.tape/\u'.os=u0.os/\u'.output=u0.output)
def rF.step{H00:Hold}{sl sl':Option (Nat×Nat)}{gs':Array gO}{u':wD}{ops:Trace}(h:rF P φ Fin H00 u0 gs' u' sl' (t++ops))(p:stepT P (crowd gs u sl)=(.next (crowd gs' u' sl'),ops)):rF P φ Fin H00 u0 gs u sl t:=by obtain⟨N,gs',e,f,u',sl',s,r,D,m,h2⟩:=h;exact⟨N+1,gs',e,f,u',sl',s,r,D,by simp only[runNT,p];exact m,h2⟩
end
end
section
open Go.ConcR (KK WgAt stA smA rd wr Payload)
def Xt{l:List (Option X)}(h:l[i]? =some none):l.set i none=l:=by
 apply List.ext_getElem?
 grind
def Xu{l:List (Option X)}{o:Option X}{x:X}(h:(l.set i o)[j]? =some (some x)):(j=i/\o=some x)\/(j≠i/\l[j]? =some (some x)):=by grind
section
variable [Payload] {P:pQ} {φ:Ph} {Fin:Hold->gO->wD->Prop} {H00:Hold} {u0:wD}
omit [Payload] in
def iF.own0{H':Hold}(h:iF φ H00 u0 u j H)(x:u0.heap.size<=u.heap.size)(m:Does (H 0) H' u u'):iF φ H00 u0 u' j (upd H 0 H'):=by
 have y:=φ.f.pos;refine⟨λb e p h2 f=>(m.keep b zP λs=>(h.m0 b s).elim f λz=>zP).trans (h.keep b e p h2 f),λb e=>?_,λk r b e=>?_⟩
 ·rw[upd_same]at e
  rcases m.mine b e with e|e
  ·exact h.m0 b e
  grind
 rw[upd_ne _ _ zP]at e;exact h.kids k r b e
omit [Payload] in
def iF.ownK{H':Hold}(h:iF φ H00 u0 u j H)(A:u0.heap.size<=u.heap.size)(x:k<j)(m:Does (H (φ.f.n0+k)) H' u u'):iF φ H00 u0 u' j (upd H (φ.f.n0+k) H'):=by
 have E:=φ.f.pos;refine⟨λb f r h2 s=>(m.keep b zP λy=>by have:=h.kids k x b y;omega).trans (h.keep b f r h2 s),λb f=>?_,λi p b f=>?_⟩
 ·rw[upd_ne _ _ zP]at f;exact h.m0 b f
 by_cases e:i=k
 ·subst e;rw[upd_same]at f
  rcases m.mine b f with f|f
  ·exact h.kids i p b f
  omega
 rw[upd_ne _ _ zP]at f;exact h.kids i p b f
omit [Payload] in
def iF.aside(h:iF φ H00 u0 u j H)(m:Aside φ.f.Wg u u'):iF φ H00 u0 u' j H:=
 ⟨λb p e h2 f=>(m.block b e).trans (h.keep b p e h2 f),h.m0,h.kids⟩
def iF.cell{u u':wD}{j n k:Nat}{H:Nat->Hold}(h:iF φ H00 u0 u j H)(m:AsideCell φ.f.C n k u u'):iF φ H00 u0 u' j H:=
 ⟨λb p e h2 f=>(m.block b h2).trans (h.keep b p e h2 f),h.m0,h.kids⟩
omit [Payload] in
def iF.fork(h:iF φ H00 u0 u j H):iF φ H00 u0 u (j+1) (upd (upd H 0 (H 0).shared) (φ.f.n0+j) (H 0).shared):=by
 have p:=φ.f.pos;refine⟨h.keep,λb f=>?_,λk m b f=>?_⟩
 ·rw[upd_ne _ _ zP,upd_same]at f;exact f.elim
 by_cases e:k=j
 ·subst e;rw[upd_same]at f;exact f.elim
 rw[upd_ne _ _ zP,upd_ne _ _ zP]at f;exact h.kids k zP b f
def AO(j:Nat)(D:Nat->KD):Nat:=sumTo j λk=>(D k).stage
def sumF(j:Nat)(D:Nat->KD):Nat:=sumTo j λk=>(D k).fuel
def Le(P:pQ)(φ:Ph)(Fin:Hold->gO->wD->Prop)(H00:Hold)(u0:wD)(tag:Tg)(S:Nat)(l:List (Option X)):Prop:=
 ∀(blk:Bool) (D:Nat->KD) (gs:Array gO) (u:wD) (e:Option (Nat×Nat)) (t:Trace) (q:Nat->Nat) (H:Nat->Hold),AO (tag.started φ.n) D=S->aO P φ u0 tag blk D l gs u t q H->iF φ H00 u0 u (tag.started φ.n) H->
  (blk=true->∃f,WgAt φ.tw φ.f.Wg u f 0)->rF P φ Fin H00 u0 gs u e t
abbrev xY(P:pQ)(φ:Ph)(Fin:Hold->gO->wD->Prop)(ρ:Nat)(tag:Tg)(l:List (Option X)):Prop:=∀i x,l[i]? =some (some x)->aH P (i==0) (EC P φ Fin ρ tag i) x
theorem EI{tag:Tg}(h:i≠0):EC P φ Fin ρ tag i=vP P φ (i-φ.f.n0):=if_neg h
def xY.change{ρ':Nat}{tag tag':Tg}{l:List (Option X)}(h:xY P φ Fin ρ tag l){y:X}(f:aH P true (Sct P φ Fin ρ' tag') y):xY P φ Fin ρ' tag' (l.set 0 (some y)):=λi x hx=>by
 rcases Xu hx with⟨rfl,e⟩|⟨e,hx⟩
 ·obtain rfl:=Agy e;exact f
 grind [EI]
def phase(ρ:Nat):∀(tag:Tg) (S:Nat) (l:List (Option X)),xY P φ Fin ρ tag l->Le P φ Fin H00 u0 tag S l:=by
 induction ρ using Agz with
 |_ ρ ihρ=>
 intro tag S
 induction S using Agz with
 |_ S ihS=>
 intro l hT;refine EH l.length (Xq P (λi=>i==0) (EC P φ Fin ρ tag)) (Le P φ Fin H00 u0 tag S) (λl hl=>?_) l rfl hT;clear hT;have hT:xY P φ Fin ρ tag l:=by grind
 intro blk D gs u sl t q H hS hI hE hb;generalize hM:2*(sumF (tag.started φ.n) D+sumTo φ.f.n0 q)+(if blk then 0 else 1)=M
 induction M using Agz generalizing blk D gs u sl t q H with
 |_ M ihM=>
 obtain⟨i,O,J,sl',hi,hg,aJ⟩:=crowd_pick (P:=P) (w:=u) (sl:=sl) hI.awake (hI.someRun hb);have f:=hI.at J;have N:iF φ H00 u0 (u.at J) (tag.started φ.n) H:=⟨hE.keep,hE.m0,hE.kids⟩;have al:u0.heap.size<=(u.at J).heap.size:=f.same.1;have ad:blk=true->∃st,WgAt φ.tw φ.f.Wg (u.at J) st 0:=hb;have bg:=φ.f.pos;have s:∀{g':gO} {w':wD} {es:Array Event},stepG P (i==0) O (u.at J)=.go g' w' es->rF P φ Fin H00 u0 ((gs.map (woken P O g' w')).setIfInBounds i g') w' sl' (t++MemOp.ofEvents i O.frame.fn O.frame.place es)->rF P φ Fin H00 u0 gs u sl t:=λp ho=>ho.step (aJ.trans (runT_crowd_go hi p));by_cases i0:i=0
 ·subst i0;obtain⟨G,m1,m2,m3,m4,m5⟩:=f.main
  cases blk with
  |true=>grind
  |false=>
  obtain rfl:O=G.2.1:=by rw[hi]at m2;simpa using m2
  obtain⟨bc,aI,Y⟩:=hl 0 G m1;have ho:Off G.1 G.2.2 (u.at J):=by rw[m3];exact m4
  have wk:∀(g':gO) (w':wD),aO P φ u0 tag false D l (gs.map (woken P G.2.1 g' w')) (u.at J) t q H:=λg' w'=>by
   obtain⟨r,h1,_,h2⟩:=f.wake G.2.1 g' w'
   grind
  rcases Y with Z|W
  ·have hs:∀u',Off G.1 G.2.2 u'->Sct P φ Fin ρ tag G.1 G.2.1 u':=Z;have T:=hs _ ho
   cases ρ with
   |zero=>exact T.elim
   |succ ρ=>
   rcases T with T|au
   rotate_left
   ·obtain⟨st,sm,ab,hm⟩:=f.mode;obtain⟨g',p,hr⟩:=au ⟨st,sm,ab⟩;rw[m3]at hr;have A:=wk g' (u.at J);exact s p (ihρ ρ (Agw _) tag _ _ (hT.change hr) false _ _ _ sl' _ q _ rfl (A.lib0 tag rfl A.jn _ _ (.refl _ _) yW (by simp[deafBehind]) hr.running ⟨st,sm,ab,hm⟩) N (λe=>by cases e))
   by_cases ae:∃j,tag=.go j
   ·obtain⟨j,rfl⟩:=ae;obtain⟨g',child,p,ak,hr⟩:=T;have af:gs.size=φ.f.n0+j:=f.size;have hf:=f.fork (g':=g') (child:=child) hr.running ak.running (o1:={g:=0,fn:=G.2.1.frame.fn,pos:=G.2.1.frame.place,act:=.go gs.size}) (o2:={g:=gs.size,fn:=child.frame.fn,pos:=G.2.1.frame.place,act:=.start}) ⟨rfl,by rw[af]⟩ ⟨af,rfl⟩ (.int .u64 0);rw[m3]at hr ak;refine rF.step (gs':=(gs.setIfInBounds 0 g').push child) (u':=u.at J) (sl':=sl') (ops:=#[{g:=0,fn:=G.2.1.frame.fn,pos:=G.2.1.frame.place,act:=.go gs.size},{g:=gs.size,fn:=child.frame.fn,pos:=G.2.1.frame.place,act:=.start}]) ?_ (aJ.trans (runT_crowd_spawn hi p));refine ihρ ρ (Agw _) (.idle (j+1)) _ _ (λi x hx=>?_) false _ _ _ sl' _ q _ rfl hf N.fork (λe=>by cases e);by_cases hlt:i<l.length
    ·rw[List.getElem?_append_left (by grind)]at hx;exact hT.change hr i x hx
    rw[List.getElem?_append_right xL]at hx;have bf:=f.len;have e0:i-(l.set 0 (some ((H 0).shared,g',u.at J))).length=0:=by grind
    rw[e0]at hx;simp only[Ad5,oI]at hx
    grind [EI]
   by_cases ap:tag=.acq
   ·subst ap;obtain⟨g',p,aT,aB⟩:=T;have A:=wk g' (u.at J);obtain⟨hq,hP⟩:=A.acquire G.2.1.frame.fn G.2.1.frame.place;obtain⟨st,sm,ab,hm⟩:=A.mode;have af:gs.size=φ.f.n0+φ.n:=f.size;have aE:=f.pos;refine s p ⟨0,_,H,g',u.at J,sl',_,λa=>if a<φ.f.n0 then q a else(D (a-φ.f.n0)).fuel,D,rfl,by simp[af],by simp[aE],aT,by rw[<-m3];exact aB,⟨λa x ha hx=>?_,λa ha=>?_⟩,hP,λk U=>?_,?_,A.pay,N,A.apt.congr λx hx=>(ug φ.f _ D x).2 hx,λx b hx hb=>A.low x b ((ug φ.f _ D x).2 hx) hb,A.dead,A.same⟩
    ·rw[Array.getElem?_setIfInBounds_ne zP]at hx;rw[Deaf_other t (g:=a) (g':=0) zP _ (λop aw=>fV aw)];by_cases ay:a<φ.f.n0
     ·obtain⟨_,g,h2,h3⟩:=A.leav a ha ay
      grind
     have hlt:=(aS.1 hx).1;have a3:a<φ.f.n0+φ.n:=by simp at hlt;omega
     have U:a-φ.f.n0<Tg.acq.started φ.n:=by show a-φ.f.n0<φ.n;omega
     obtain⟨g,h1,h2,h3⟩:=A.kid (a-φ.f.n0) U;have e:φ.f.n0+(a-φ.f.n0)=a:=zP
     rw[e,hx,oI]at h1;rw[e]at h2;subst h1;have aG:=hq (a-φ.f.n0) U;simp only[ay,if_false]
     rcases h3 with⟨c,_⟩|⟨_,_,c⟩
     ·omega
     rcases c.sit with⟨c7,_⟩|⟨_,cs⟩
     ·omega
     rw[aG]at cs;rw[h2]
     cases cs with
     |quit z=>exact z
    ·rw[Deaf_other t (g:=a) (g':=0) (by grind) _ (λop aw=>fV aw)];exact A.above a (by grind)
    ·obtain⟨g,h1,h2,h3⟩:=A.kid k U;have aG:=hq k U
     rcases h3 with⟨c,_⟩|⟨_,_,c⟩
     ·omega
     exact⟨c.has,c.val⟩
    cases hm with
    |opn q1 _ _ _=>exact q1.elim
    |reg q1 _ _=>exact q1.elim
    |last L q1 _ _ _=>exact q1.elim
    |sema q1 _=>exact q1.elim
    |fin _ _=>exact ab
   rw[m3]at T
   rcases f.go0 T (λj e=>ae ⟨j,e⟩) ap G.2.1.frame.fn G.2.1.frame.place with⟨g',u',es,a8,p,hA,hr,aQ⟩|⟨rfl,aD,p,a4⟩
   ·have A:=wk g' u'
    rcases A.go0 T (λj e=>ae ⟨j,e⟩) ap G.2.1.frame.fn G.2.1.frame.place with⟨g2,u2,an,am,E,ag,aY,aa⟩|⟨rfl,_,E,_⟩
    ·obtain⟨rfl,rfl,rfl⟩:g'=g2/\u'=u2/\es=an:=by rw[p]at E;simpa using E
     have aL:am.started φ.n=tag.started φ.n:=by have a1:=aa.size;have a2:=f.size;simp at a1;omega
     exact s p (ihρ ρ (Agw _) am _ _ (hT.change aY) false _ _ _ sl' _ q _ rfl aa (by rw[aL];exact N.aside ag) (λe=>by cases e))
    rw[p]at E;have bh:=hr.running
    grind
   have A:=wk {G.2.1 with status:=.blocked} (u.at J);have be:=A.block m1 aD
   grind [MemOp.ofEvents,ofEvents_eq]
  obtain⟨y,aN,ao,ac⟩:=W _ ho;obtain⟨es,p,Q,aq⟩:=aN;have A:=wk y.2.1 y.2.2;rw[m3]at Q;exact s p (ac false D _ _ sl' _ q _ hS (A.own0 J _ _ Q aq ao.running) (N.own0 al Q) (λe=>by cases e))
 have aC:(i==0)=false:=by simp[i0]
 rw[aC]at s;by_cases ar:i<φ.f.n0
 ·obtain⟨h1,g,h2,h3⟩:=f.leav i zP ar;obtain rfl:O=g:=by rw[hi]at h2;exact Agy h2
  cases aH:q i with
  |zero=>rw[aH]at h3;rw[h3.1]at hg;cases hg
  |succ m=>
   rw[aH]at h3
   rcases h3 with⟨hf,_⟩|⟨_,g',es,hm,aM,aX⟩
   ·grind
   obtain⟨r,V,_,A⟩:=f.wake O g' (u.at J);have hs:=A.slip zP ar O.frame.fn O.frame.place hm aX;have a5:sumTo φ.f.n0 (upd q i m)+(m+1)=sumTo φ.f.n0 q+m:=by
    have:=sumTo_upd q m id ar
    simp_all
   have a1:(if r then 0 else 1 :Nat)<=1:=by split<;>omega
   exact s (aM (u.at J)) (ihM _ (by grind) r D _ _ sl' _ _ H hS hs N (λe=>ad (V e)) rfl)
 have af:gs.size=φ.f.n0+tag.started φ.n:=f.size;have aZ:=(aS.1 hi).1;obtain⟨k,rfl⟩:∃k,i=φ.f.n0+k:=⟨i-φ.f.n0,zP⟩;have U:k<tag.started φ.n:=zP
 obtain⟨g,h1,h2,h3⟩:=f.kid k U;obtain rfl:O=g:=by rw[hi]at h1;exact Agy h1
 by_cases h8:(D k).stage=8
 ·rcases h3 with⟨_,aA,x,c1,c2,c3,c4,c5⟩|⟨c,_⟩
  ·obtain⟨bd,aI,Y⟩:=hl _ x c1;have ho:Off x.1 x.2.2 (u.at J):=by rw[c3];exact c4
   rcases Y with Z|W
   ·have hp:vP P φ k x.1 x.2.1 (u.at J):=by
     have:=Z _ ho;rw[EI i0]at this
     grind
    obtain⟨v,g',a6,p,ax⟩:=hp;have aj:=p f.pay;have aV:k<φ.n:=by have:=f.jn;omega
    obtain⟨hA,ai⟩:=Xr f.pay aV v;obtain⟨r,V,_,A⟩:=f.wake O g' ((u.at J).setCell ⟨φ.f.C,k,none⟩ v);obtain⟨st,sm,ab,_⟩:=f.mode;have eW:=hA.block φ.f.Wg (Ne.symm φ.f.CW);obtain⟨m,hs⟩:=ax _ ⟨st,sm,ab.of_block eW⟩ ai;have aF:=A.put U h8 aA O.frame.fn O.frame.place (by grind) hs ai hA;have ah:=sumTo_upd D (⟨7,m,0,v⟩:KD) (λd=>d.stage) U;rw[<-c2]at aj;refine s aj (ihS _ ?_ _ (λi x hx=>?_) r _ _ _ sl' _ q H rfl aF (N.cell hA) (λe=>let ⟨st,z⟩:=ad (V e);⟨st,z.of_block eW⟩))
    ·rw[<-hS];simp only[AO]at ah⊢;omega
    grind
   obtain⟨y,⟨es,p,Q,aq⟩,ao,ac⟩:=W _ ho;obtain⟨r,V,_,A⟩:=f.wake O y.2.1 y.2.2;rw[c3]at Q;rw[<-c2,aC]at p;have hW:=f.wgLt;have hp:Pr (bP φ.f (tag.started φ.n) D) (rlK φ.f (tag.started φ.n) D) (φ.f.n0+k):=.inr (mP φ.f D U);have eW:y.2.2.heap[φ.f.Wg]? =(u.at J).heap[φ.f.Wg]? :=Q.keep _ hW λhm=>(f.apt.no _ _ hp (.inl hm)).2.1 rfl;exact s p (ac r D _ _ sl' _ q _ hS (A.ownK U h8 aA J _ _ Q aq ao.running) (N.ownK al U Q) (λe=>let ⟨st,z⟩:=ad (V e);⟨st,z.of_block eW⟩))
  omega
 obtain⟨c7,aW,aR⟩:=h3.resolve_left λz=>h8 z.1;obtain⟨g',u',es,d',p,hA,hlow,a9,bi,aQ⟩:=f.kidMove ad U c7 hi hg;obtain⟨r,V,hbw,A⟩:=f.wake O g' u';have aU:(gs.map (woken P O g' u'))[φ.f.n0+k]? =some O:=by rw[Aea,hi,Aaw,aR.sit.woken]
 obtain⟨g2,u2,an,d2,E,ag,av,ba,a7,aa⟩:=A.kidMove (λe=>ad (V e)) U c7 aU hg;obtain⟨rfl,rfl,rfl⟩:g'=g2/\u'=u2/\es=an:=by rw[p]at E;simpa using E
 rw[Xt aW]at aa;have az:r=true->∃st,WgAt φ.tw φ.f.Wg u' st 0:=by grind
 have ah:=sumTo_upd D d2 (λd=>d.stage) U;have aP:=sumTo_upd D d2 (λd=>d.fuel) U
 rcases av with hlt|⟨he,hf⟩
 ·refine s p (ihS _ ?_ l hT r _ _ _ sl' _ q H rfl aa (N.aside ag) az);rw[<-hS];simp only[AO]at ah⊢;omega
 have a1:(if r then 0 else 1 :Nat)<=1:=by split<;>omega
 refine s p (ihM _ ?_ r _ _ _ sl' _ q H ?_ aa (N.aside ag) az rfl)
 ·rw[<-hM];simp only[sumF]at aP⊢;omega
 rw[<-hS];simp only[AO]at ah⊢;omega
end
end
section
open Go.ConcR (KK WgAt stA smA rd wr Payload)
theorem TrW.of_past2{f:Fam}{B:Nat}(h:Past (bW f.dead) B t)(s:∀m∈t,(∀x,m.act.touch?=some x->¬ShN f.Wg x.loc)/\m.act≠.mark (.release (stA f.Wg)))(H:Nat->Hold):TrW f B t (λ_=>False) (λ_=>False) H:=by
 refine⟨h.clean,λi m x p hx J=>absurd J ((s m (mem_of_getElem? p)).1 x hx),h.seen,λi a y E=>?_,λc hc=>hc.elim,λc hc=>hc.elim,λi g A r hc=>.inl (h.over i g A r hc),λi p=>?_,λk e=>e.elim,λc hc=>(hc.elim id id).elim,λc hc=>hc.elim⟩
 ·rcases h.known i a y E with e|e
  ·exact .inr (.inr ⟨0,.inl ⟨.inl rfl,e⟩,λq=>absurd rfl q⟩)
  exact .inl e
 obtain⟨m,M,G⟩:=Ht.1 p
 grind
def untouched{A:Trace}{p Wg:Nat}{H:Hold}(r:∀m∈A,m.act.low p)(N:p<=Wg)(G:vO H A t)(hn:¬(H.mine Wg\/H.sh Wg)):∀m∈t,(∀x,m.act.touch?=some x->¬ShN Wg x.loc)/\m.act≠.mark (.release (stA Wg)):=by
 obtain⟨u,rfl,y⟩:=G;intro m f
 rcases Array.mem_append.1 f with f|f
 ·have s:=r m f;refine⟨λx hx ⟨a,e,J⟩=>?_,λe=>?_⟩
  ·obtain⟨i,M,E⟩:=Agr.1 f;have:=Ez r (i:=i) (a:=x) (by rw[touchAt_of (aG M),E];exact hx);rw[e]at this;have:a.block<p:=this;omega
  rw[e]at s;have:(stA Wg).block<p:=s;simp[stA]at this;omega
 refine⟨λx hx ⟨a,e,J⟩=>?_,(y m f).2 _⟩;have:=(y m f).1 x hx (by rw[e];rfl);rw[e]at this;have:H.mine a.block\/H.sh a.block:=this
 grind
section
variable [Payload] {P:pQ} {φ:Ph} {Fin:Hold->gO->wD->Prop}
def aO.start{gs:Array gO}{q:Nat->Nat}{H:Hold}(hn:φ.f.n0=gs.size)(Y:gs[0]? =some g)(A:g.status=.running)(N:Leavers P t gs q)(X:Past (bW φ.f.dead) u.heap.size t)(f:Live φ.f.dead H u)(hW:∀V∈t,(∀x,V.act.touch?=some x->¬ShN φ.f.Wg x.loc)/\V.act≠.mark (.release (stA φ.f.Wg)))(W:¬(H.mine φ.f.C\/H.sh φ.f.C))(E:¬(H.mine φ.f.Wg\/H.sh φ.f.Wg))(O:∀b,H.mine b->¬H.sh b)(J:WgAt φ.tw φ.f.Wg u 0 0)(s:PayAt φ.f.C φ.n u):
 aO P φ u (.idle 0) false (λ_=>⟨8,0,0,.int .u64 0⟩) (some (H,g,u)::List.replicate (gs.size-1) none) gs u t q (λ_=>H):=by
 have T:0<gs.size:=by grind
 have p:bP φ.f 0 (λ_=>⟨8,0,0,.int .u64 0⟩)=λ_=>False:=by
  funext x
  exact propext ⟨λ⟨k,h,_⟩=>zP,λh=>h.elim⟩
 have G:rlK φ.f 0 (λ_=>⟨8,0,0,.int .u64 0⟩)=λ_=>False:=by
  funext x
  exact propext ⟨λ⟨k,h,_⟩=>zP,λh=>h.elim⟩
 have S:∀x,Pr (bP φ.f 0 (λ_=>⟨8,0,0,.int .u64 0⟩)) (rlK φ.f 0 (λ_=>⟨8,0,0,.int .u64 0⟩)) x->x=0:=λx hx=>by rw[p,G]at hx;exact hx.elim id λz=>(z.elim id id).elim
 refine⟨Nat.zero_le _,by simp;omega,by simp[Tg.started,hn],⟨(H,g,u),rfl,Y,rfl,Off.refl _ _,A⟩,(λe=>by cases e),λk hk=>by simp[Tg.started]at hk,λi Q Z=>⟨?_,?_⟩,X.hears,N.above,?_,⟨λx y b hx U M=>?_,λx y b hx U hm aa=>?_,λx b hx r=>?_⟩,λx b hx r=>(f.at_ b r).1,⟨0,0,J,?_⟩,s,f.dead,nR _,rfl,rfl,rfl⟩
 ·grind
 ·have hlt:i<gs.size:=zP
  exact⟨gs[i],aG hlt,N.old i _ Q (aG hlt)⟩
 ·show TrW φ.f u.heap.size t (bP φ.f 0 _) (rlK φ.f 0 _) _
  grind [TrW.of_past2]
 ·exact absurd ((S x hx).trans (S y U).symm) M
 ·grind
 ·exact⟨λe=>W (e▸r),λe=>E (e▸r),(f.at_ b r).2⟩
 show dG 0 _ _ _ _
 have:=dG.opn (j:=0) (D:=λ_=>⟨8,0,0,.int .u64 0⟩) (tag:=.idle 0) trivial (λi Q=>zP) (λm e=>by cases e) (λm e=>by cases e);simpa[VK,sumTo,Tg.pend]using this
def Xv{gs:Array gO}{sl:Option (Nat×Nat)}{q:Nat->Nat}{H:Hold}(hr:aH P true (Sct P φ Fin ρ (.idle 0)) (H,g,u))(hn:φ.f.n0=gs.size)(N:gs[0]? =some g)(E:Leavers P t gs q)(G:Past (bW φ.f.dead) u.heap.size t)(f:Live φ.f.dead H u)(J:∀y∈t,(∀x,y.act.touch?=some x->¬ShN φ.f.Wg x.loc)/\y.act≠.mark (.release (stA φ.f.Wg)))(A:¬(H.mine φ.f.C\/H.sh φ.f.C))(r:¬(H.mine φ.f.Wg\/H.sh φ.f.Wg))(m:∀b,H.mine b->¬H.sh b)(s:WgAt φ.tw φ.f.Wg u 0 0)(p:PayAt φ.f.C φ.n u):rF P φ Fin H u gs u sl t:=by
 refine phase ρ (.idle 0) _ _ (λi x hx=>?_) false _ gs u sl t q _ rfl (aO.start hn N hr.running E G f J A r m s p) ⟨λ_ _ _ _ _=>rfl,λb M=>.inl M,λk O=>?_⟩ (λe=>by cases e)
 ·cases i with
  |zero=>simp only[Ad5,oI]at hx;subst hx;exact hr
  |succ i=>grind
 grind [Tg.started]
end
end
end Go.Tp
namespace Go.Tp
abbrev jh:Go.Conc.Lib.WgLink:={add:=141,done:=143,wait:=145,relMerge:=168,disable:=169,enable:=170,inBubble:=171,associate:=172,fatal:=173,uOr:=174,uAdd:=175,raceRead:=176,uLoad:=177,uStore:=178,disassociate:=179,semrelease:=180,acquire:=183,isAssociated:=184,uCas:=185,raceWrite:=186,semacquire:=187,orU64:=205,addU64:=206,loadU64:=207,storeU64:=208,casU64:=213,tWgP:=217,tUP:=219,tAssoc:=220,tWg:=189,tAU:=186,tU64:=184,tUint:=216,tU32:=187,tPU32:=224,tPAU:=248,tPU64:=250,tNoCopy:=181,tANoCopy:=182,tAlign64:=183}
def oL:Go.Conc.Lib.WgLib Go.Proofs.Tryz.prog jh:=
 ⟨func141,func143,func145,func168,func169,func170,func171,func172,func173,func174,func175,func176,func177,func178,func179,func180,func183,func184,func185,func186,func187,func205,func206,func207,func208,func213,underlying217,runUnderlying217,sizeOf217,isAgg217,zeroValue217,underlying219,runUnderlying219,sizeOf219,isAgg219,zeroValue219,underlying220,runUnderlying220,sizeOf220,isAgg220,zeroValue220,underlying189,runUnderlying189,sizeOf189,isAgg189,zeroValue189,underlying186,runUnderlying186,sizeOf186,isAgg186,zeroValue186,underlying184,runUnderlying184,sizeOf184,isAgg184,zeroValue184,underlying216,runUnderlying216,sizeOf216,isAgg216,zeroValue216,underlying187,runUnderlying187,sizeOf187,isAgg187,zeroValue187,underlying224,runUnderlying224,sizeOf224,isAgg224,zeroValue224,underlying248,runUnderlying248,sizeOf248,isAgg248,zeroValue248,underlying250,runUnderlying250,sizeOf250,isAgg250,zeroValue250,underlying0,runUnderlying0,sizeOf0,isAgg0,zeroValue0,underlying3,runUnderlying3,sizeOf3,isAgg3,zeroValue3,underlying4,runUnderlying4,sizeOf4,isAgg4,zeroValue4,underlying9,runUnderlying9,sizeOf9,isAgg9,zeroValue9,underlying20,runUnderlying20,sizeOf20,isAgg20,zeroValue20,underlying21,runUnderlying21,sizeOf21,isAgg21,zeroValue21,xD,xD⟩
end Go.Tp
namespace Go.Tp
open Go.Conc Go.ConcN Go.RowKit Go.Conc.Lib Go.ConcR.Gen Go.ConcN.Gen
variable {cs:List fR} {Wg C:Nat}
section
open Go.ConcR (KK wgBlock WgAt stA smA rd wr mk Payload Aside2 DC0)
section
variable {P:pQ} {mn:Bool} {K:wD->Prop}
abbrev InK(K:wD->Prop):wD->wD->Prop:=λ_ w'=>K w'
theorem Lh{R:wD->wD->Prop}{S Stop:gO->wD->Prop}(p:∀w w',K w->R w w'->K w')(s:∀g w,S g w->K w->Stop g w):
 ∀{m:Nat} {g:gO} {w:wD},Goes P mn (InK K) DC0 S m g w->K w->Goes P mn R DC0 Stop m g w
 |0,g,w,h,hk=>λf e=>s _ _ (h f (p _ _ hk e)) (p _ _ hk e)
 |m+1,g,w,h,hk=>by
  rcases h with h|⟨A,h⟩
  ·exact .inl λf e=>s _ _ (h f (p _ _ hk e)) (p _ _ hk e)
  refine .inr ⟨A,λf e=>?_⟩;have r:=p _ _ hk e;have:=h f r
  revert this
  cases stepG P mn g f<;>simp only[Ahg,imp_self]
  rintro⟨⟨rfl,x⟩,y⟩;exact⟨⟨rfl,x⟩,Lh p s y r⟩
theorem EJ{R:wD->wD->Prop}{D:wD->wD->Array Event->Prop}{Stop:gO->wD->Prop}(p:∀w,R w w)(e:∀g w x,Stop g w->stepG P mn g w≠.go x w #[]){g1:gO}:
 ∀{m n:Nat} {g:gO} {w:wD},Goes P mn (InK K) DC0 (λg _=>g=g1) m g w->K w->Goes P mn R D Stop n g w->∃E,Goes P mn R D Stop E g1 w
 |0,n,g,w,h,hk,hn=>by obtain rfl:g=g1:=h w hk;exact⟨n,hn⟩
 |m+1,n,g,w,h,hk,hn=>by
  rcases h with h|⟨_,h⟩
  ·obtain rfl:g=g1:=h w hk;exact⟨n,hn⟩
  have r:=h w hk
  cases f:stepG P mn g w<;>rw[f]at r<;>simp only[Ahg]at r
  rename_i x w' G;obtain⟨⟨s,A⟩,y⟩:=r;rw[s,A]at f;rw[s]at y
  cases n with
  |zero=>exact absurd f (e _ _ _ (hn w (p w)))
  |succ n=>
   rcases hn with hn|⟨_,hn⟩
   ·exact absurd f (e _ _ _ (hn w (p w)))
   have h2:=hn w (p w);rw[f]at h2;exact EJ p e y hk h2.2
end
variable [Payload] {L:WgLink}
abbrev KH(e:Ahu)(Wg C i:Nat)(v:vL)(w:wD):Prop:=WgLive e Wg w/\Has C i v w
omit [Payload] in
def lV{f:Ahu}{i:Nat}{v:vL}{w e:wD}(_:KH f Wg C i v w)(h:KH f Wg C i v e):KH f Wg C i v e:=h
abbrev EK(L:WgLink)(Wg:Nat)(cs:List fR):gO:=G ((baseD L.done).at ⟨#[.pointer (some ⟨Wg,0,none⟩),ud,ud,ud],[]⟩ [.code (body_done L)]) cs
omit [Payload] in
def Xw{P:pQ}(H:WgLib P L){k:Nat}{val:vL}:
 ∃g1 g2 g3 g4,(∀w,KH L.tWg Wg C k val w->Goes P false (InK (KH L.tWg Wg C k val)) DC0 (λg _=>g=g1) 20 (EK L Wg cs) w)/\
  (∀w,stepG P false g1 w=.go g2 w #[mk (.releaseMerge (stA Wg))])/\
  (∀w,KH L.tWg Wg C k val w->Goes P false (InK (KH L.tWg Wg C k val)) DC0 (λg _=>g=g3) 10 g2 w)/\∀w,stepG P false g3 w=.go g4 w #[mk .disable]:=by
 lib_facts
 apply Exists.intro;apply Exists.intro;apply Exists.intro;apply Exists.intro;refine⟨λw hK=>?p1,λw=>?p2,λw hK=>?p3,λw=>?p4⟩
 case p1=>
  simp only[EK,body_done,doneFn,Agx]
  u_reg lV hK
  u_op lV hK
  u_in lV hK
  refine goes_call rfl rfl (by k_ne) rfl H.f_add (nm_add L) rfl ⟨by u_nil,?_⟩
  walk_nrmf addFn
  iterate 11 (first|u_c Agv lV hK|u_c Ahn lV hK|u_reg lV hK|u_cond true lV hK|u_op lV hK)
  u_conv H.underlying_tWgP H.room_tWg (WgLive.cell0 hK.1).choose_spec lV hK
  exact Ahm λw₁ h₁=>rfl
 case p2=>exact Ag4 .releaseMerge yW rfl rfl (by k_ne) rfl H.f_relMerge (x_relMerge_n L) (x_relMerge_b L) (x_relMerge_x L) (x_relMerge_f L) (by simp[Ahq,stA])
 case p3=>
  walk_nrm
  iterate 3 (first|u_c Agv lV hK|u_c Ahn lV hK|u_reg lV hK)
  exact Ahm λw₁ h₁=>rfl
 case p4=>exact Ag5 .disable yW rfl rfl (by k_ne) rfl H.f_disable (Ag6 L) (Ag7 L) (Ag8 L) (Ag9 L)
def Xx{P:pQ}(H:WgLib P L){n Low k:Nat}{val:vL}{c:fR}{X:Nat}(y:c.mode=.returning)(T:QuitsD P X 0 (G c cs))(w:wD)(J:KH L.tWg Wg C (k-1) val w):
 Goes P false (RW L.tWg Wg C n Low (k-1)) DC0 (AtR0 P L.tWg Wg C n Low k val) 20 (EK L Wg (c::cs)) w:=by
 obtain⟨Y,Z,S,g4,O,V,W,Q⟩:=Xw H (Wg:=Wg) (C:=C) (k:=k-1) (val:=val) (cs:=c::cs);refine Lh (λw w' h r=>kn_rely h r) (λg w e p=>?_) (O w J) J;subst e;have s:∀g w A,AtR0 P L.tWg Wg C n Low k val g w->stepG P false g w≠.go A w #[]:=λg w A U e=>by obtain⟨_,_,x,h,_⟩:=U;rw[h]at e;simp at e
 obtain⟨M,hn⟩:=EJ (λw=>Ago w) s (O w p) p (doneN H (Own:=λ_ _=>False) (Rd:=λ_ _=>False) (n:=n) (Low:=Low) y T w p)
 cases M with
 |zero=>exact hn w (Ago w)
 |succ M=>
  rcases hn with hn|⟨_,hn⟩
  ·exact hn w (Ago w)
  have E:=hn w (Ago w);rw[V w]at E;obtain⟨N,f⟩:=EJ (λw=>Ago w) s (W w p) p E.2;have m:¬AtR0 P L.tWg Wg C n Low k val S w:=λ⟨_,_,x,h,_⟩=>by rw[Q w]at h;simp[mk]at h
  cases N with
  |zero=>exact absurd (f w (Ago w)) m
  |succ N=>
   rcases f with f|⟨_,f⟩
   ·exact absurd (f w (Ago w)) m
   have h2:=f w (Ago w);rw[Q w]at h2;exact absurd rfl (h2.1.2 _ (Array.mem_singleton.2 rfl)).2.1
end
section
open Go.ConcR (KK wgBlock WgAt stA smA rd wr mk Payload Aside2 DC0)
section
variable [Payload] {P:pQ} {φ:Ph} {Fin:Hold->gO->wD->Prop}
theorem Spec.mono{A y:Tg->X->Prop}(h:∀tag x,A tag x->y tag x){tag:Tg}{Hd:Hold}{g:gO}{u:wD}(p:Spec P φ Fin A tag Hd g u):Spec P φ Fin y tag Hd g u:=by
 cases tag with
 |idle j=>obtain⟨f,a,b⟩:=p;exact⟨f,a,h _ _ b⟩
 |add j=>exact λv s r=>let ⟨f,a,b⟩:=p v s r;⟨f,a,h _ _ b⟩
 |said j=>obtain⟨f,a,b⟩:=p;exact⟨f,a,h _ _ b⟩
 |en j=>obtain⟨f,a,b⟩:=p;exact⟨f,a,h _ _ b⟩
 |go j=>obtain⟨f,c,a,b,d⟩:=p;exact⟨f,c,a,b,h _ _ d⟩
 |ld m=>exact λv s r=>let ⟨f,a,b⟩:=p v s r;⟨f,a,h _ _ b⟩
 |cas vs=>exact λv s r=>⟨λe=>let ⟨f,a,b⟩:=(p v s r).1 e;⟨f,a,h _ _ b⟩,λe=>let ⟨f,a,b⟩:=(p v s r).2 e;⟨f,a,h _ _ b⟩⟩
 |sw=>obtain⟨f,a,b⟩:=p;exact⟨f,a,h _ _ b⟩
 |sem=>exact⟨p.1,p.2.1,λr=>let ⟨f,a,b⟩:=p.2.2 r;⟨f,a,h _ _ b⟩⟩
 |ld2=>exact λr=>let ⟨f,a,b⟩:=p r;⟨f,a,h _ _ b⟩
 |wen=>obtain⟨f,a,b⟩:=p;exact⟨f,a,h _ _ b⟩
 |acq=>exact p
theorem Sct.more:∀{ρ:Nat} {tag:Tg} {Hd:Hold} {g:gO} {u:wD},Sct P φ Fin ρ tag Hd g u->Sct P φ Fin (ρ+1) tag Hd g u
 |0,_,_,_,_,h=>h.elim
 |ρ+1,_,_,_,_,h=>by
  rcases h with h|h
  ·exact .inl (Spec.mono (λtag x hx=>hx.mono λ_ _ _=>Sct.more) h)
  exact .inr λf=>let ⟨e,a,b⟩:=h f;⟨e,a,b.mono λ_ _ _=>Sct.more⟩
def Sct.le{ρ ρ':Nat}(e:ρ<=ρ'){tag:Tg}{Hd:Hold}{g:gO}{u:wD}(h:Sct P φ Fin ρ tag Hd g u):Sct P φ Fin ρ' tag Hd g u:=by
 induction e with
 |refl=>exact h
 |step _ ih=>exact ih.more
abbrev aZ(P:pQ)(φ:Ph)(Fin:Hold->gO->wD->Prop)(ρ:Nat)(tag:Tg)(x:X):Prop:=aH P true (Sct P φ Fin ρ tag) x
theorem aZ.le{ρ ρ':Nat}(e:ρ<=ρ'){tag:Tg}{x:X}(h:aZ P φ Fin ρ tag x):aZ P φ Fin ρ' tag x:=h.mono λ_ _ _=>Sct.le e
abbrev KG(φ:Ph)(Hd:Hold)(u0 u:wD):Prop:=WgLive φ.tw φ.f.Wg u/\Off Hd u0 u
theorem iT{tag:Tg}{Hd:Hold}{u0:wD}{ρ:Nat}{S:gO->wD->Prop}(p:∀g u,S g u->KG φ Hd u0 u->g.status=.running/\Spec P φ Fin (aZ P φ Fin ρ) tag Hd g u):
 ∀{m:Nat} {g:gO} {u:wD},Goes P true (InK (KG φ Hd u0)) DC0 S m g u->KG φ Hd u0 u->aZ P φ Fin (ρ+m+1) tag (Hd,g,u)
 |0,g,u,h,hk=>by
  refine .stop (p _ _ (h u hk) hk).1 λu' f=>?_;by_cases e:WgLive φ.tw φ.f.Wg u'
  ·exact .inl (p g u' (h u' ⟨e,hk.2.trans f⟩) ⟨e,hk.2.trans f⟩).2
  exact .inr λx=>absurd x e
 |m+1,g,u,h,hk=>by
  rcases h with h|⟨G,h⟩
  ·refine .stop (p _ _ (h u hk) hk).1 λu' f=>?_;by_cases e:WgLive φ.tw φ.f.Wg u'
   ·exact .inl (Spec.mono (λtag x hx=>aZ.le zP hx) (p g u' (h u' ⟨e,hk.2.trans f⟩) ⟨e,hk.2.trans f⟩).2)
   exact .inr λx=>absurd x e
  refine .stop G λu' f=>.inr λe=>?_;have r:KG φ Hd u0 u':=⟨e,hk.2.trans f⟩;have s:=h u' r
  cases y:stepG P true g u'<;>rw[y]at s<;>simp only[Ahg]at s
  rename_i A w' J;obtain⟨⟨rfl,rfl⟩,E⟩:=s;exact⟨A,rfl,iT p E r⟩
end
section
variable [Payload] {P:pQ} {L:WgLink} {Wg:Nat} {K:wD->Prop}
omit [Payload] in
def k_in{K:wD->Prop}{w e:wD}(_:K w)(h:K e):K e:=h
structure KOk (L:WgLink) (Wg:Nat) (K:wD->Prop):Prop where
 live:∀u,K u->WgLive L.tWg Wg u
 st:∀u (v:Int),K u->K (u.setCell (stA Wg) (.int .u64 v))
 sm:∀u (v:Int),K u->K (u.setCell (smA Wg) (.int .u32 v))
variable (P K Wg)
abbrev GK(S:gO->wD->Prop)(m:Nat)(g:gO)(u:wD):Prop:=Goes P true (InK K) DC0 S m g u
def A3(f:gO)(g:gO)(u:wD):Prop:=g.status=.running/\∃e,stepG P true g u=.go e u #[mk .enable]/\GK P K (λg _=>g=f) 4 e u
def A2(f:gO)(g:gO)(u:wD):Prop:=g.status=.running/\∃e,stepG P true g u=.go e u #[⟨.mark (.read (smA Wg)),false,true⟩]/\GK P K (A3 P K f) 80 e u
def A1(m:Ahu)(f:gO)(g:gO)(u:wD):Prop:=g.status=.running/\∀v:Nat,v<2147483647->WgAt m Wg u (v*KK) 0->
 ∃e,stepG P true g u=.go e (u.setCell (stA Wg) (.int .u64 ((v+1)*KK))) #[rd (stA Wg),wr (stA Wg)]/\(v=0->GK P K (A2 P Wg K f) 80 e (u.setCell (stA Wg) (.int .u64 ((v+1)*KK))))/\(v≠0->GK P K (A3 P K f) 140 e (u.setCell (stA Wg) (.int .u64 ((v+1)*KK))))
def A0(m:Ahu)(f:gO)(g:gO)(u:wD):Prop:=g.status=.running/\∃e,stepG P true g u=.go e u #[mk .disable]/\GK P K (A1 P Wg K m f) 60 e u
variable {P K Wg}
def AP(L:WgLink)(Wg:Nat)(cs:List fR):gO:=G ((base L.add).at ⟨#[.pointer (some ⟨Wg,0,none⟩),.int qi 1]++Afc ((addFn L).ntmps-2) ud,[]⟩ [.code (body_add L)]) cs
omit [Payload] in
def Xy(H:WgLib P L)(hKo:KOk L Wg K){b₀:fR}{a₀:Act}{ops₀:Array Oper}{i₀:Nat}{rest₀:List Nat}{k₀:List Item}(w:wD)(hK:K w):
 GK P K (A0 P Wg K L.tWg (G (b₀.at (a₀.put ((ops₀[i₀]?).bind (·.dst)) (.tuple #[])) (.inRegion ops₀ rest₀::k₀)) cs)) 20 (AP L Wg (b₀.at a₀ (.inRegion ops₀ (i₀::rest₀)::k₀)::cs)) w:=by
 lib_facts
 unfold AP;simp only[body_add,addFn,Agx,Ags,Agt,Nat.reduceSub]
 walk_nrm
 u_c Ahn k_in hK
 u_cond true k_in hK
 iterate 2 u_c Ahn k_in hK
 u_reg k_in hK
 iterate 2 u_op k_in hK
 u_c Agv k_in hK
 u_cond false k_in hK
 u_c Ahe k_in hK
 u_c Ahn k_in hK
 u_reg k_in hK
 refine Ahm λw₁ hK=>?_;refine⟨rfl,_,Ag5 .disable yW rfl rfl (by k_ne) rfl H.f_disable (Ag6 L) (Ag7 L) (Ag8 L) (Ag9 L),?_⟩
 walk_nrm
 u_c Agv k_in hK
 u_reg k_in hK
 u_defer k_in hK
 u_c Agv k_in hK
 u_c Ahn k_in hK
 u_reg k_in hK
 u_op k_in hK
 u_c Agv k_in hK
 iterate 2 u_c Ahn k_in hK
 u_reg k_in hK
 u_bub k_in hK
 u_c Agv k_in hK
 u_cond false k_in hK
 u_c Ahe k_in hK
 u_c Ahn k_in hK
 u_reg k_in hK
 iterate 6 u_op k_in hK
 u_call H.f_uAdd (nm_uAdd L) uAddFn k_in hK
 u_c Ahn k_in hK
 u_reg k_in hK
 u_op k_in hK
 u_c Agv k_in hK
 u_c Ahn k_in hK
 u_reg k_in hK
 iterate 4 u_op k_in hK
 refine Ahm λw₂ hK=>?_;refine⟨rfl,λv hv hw=>?_⟩
 rcases Af6 v with rfl|hvp
 ·replace hw:WgAt L.tWg Wg w₂ 0 0:=by simpa using hw
  have z:(((0 :Nat):Int)+1)*KK=KK:=yW
  rw[z];have e0:IntKind.u64.wrap (0+4294967296)=KK:=zE
  refine⟨_,(stepG_add_atomic rfl rfl (by k_ne) rfl H.f_addU64 (x_addU64_n L) (x_addU64_b L) (x_addU64_x L) .u64 (x_addU64_f L) rfl rfl hw.cellSt (hw.thaw 0)).trans (by rw[e0];rfl),λ_=>?_,λh=>absurd rfl h⟩;replace hK:=hKo.st w₂ KK hK;clear hw;simp only[KK]at hK⊢
  walk_nrm
  u_op k_in hK
  u_c Agv k_in hK
  u_c Ahf k_in hK
  u_leave1 H.f_uAdd k_in hK
  u_op k_in hK
  u_c Agv k_in hK
  iterate 2 u_c Ahn k_in hK
  u_reg k_in hK
  iterate 4 u_op k_in hK
  iterate 2 u_skip k_in hK
  u_op k_in hK
  u_c Agv k_in hK
  u_cond false k_in hK
  u_c Ahe k_in hK
  u_c Ahn k_in hK
  u_reg k_in hK
  iterate 4 u_op k_in hK
  u_c Agv k_in hK
  u_c Ahn k_in hK
  u_reg k_in hK
  iterate 4 u_op k_in hK
  u_c Agv k_in hK
  iterate 2 u_c Ahn k_in hK
  u_reg k_in hK
  iterate 10 u_op k_in hK
  u_c Agv k_in hK
  u_cond true k_in hK
  u_reg k_in hK
  iterate 3 u_op k_in hK
  u_conv H.underlying_tPU32 H.room_tU32 (WgLive.cell1 (hKo.live _ hK)).choose_spec k_in hK
  refine Ahm λw₃ hK=>?_;refine⟨rfl,_,Ag4 .read yW rfl rfl (by k_ne) rfl H.f_raceRead (x_raceRead_n L) (x_raceRead_b L) (x_raceRead_x L) (x_raceRead_f L) (ad:=⟨Wg,1,none⟩) (by simp[Ahq]),?_⟩
  walk_nrm
  u_c Agv k_in hK
  iterate 2 u_c Ahn k_in hK
  u_reg k_in hK
  iterate 2 u_op k_in hK
  u_c Agv k_in hK
  u_cond false k_in hK
  u_c Ahe k_in hK
  iterate 2 u_c Ahn k_in hK
  u_reg k_in hK
  iterate 3 u_op k_in hK
  iterate 2 u_skip k_in hK
  iterate 2 u_op k_in hK
  iterate 4 u_skip k_in hK
  u_op k_in hK
  u_c Agv k_in hK
  u_cond false k_in hK
  u_c Ahe k_in hK
  iterate 2 u_c Ahn k_in hK
  u_reg k_in hK
  iterate 3 u_op k_in hK
  iterate 2 u_skip k_in hK
  u_op k_in hK
  u_c Agv k_in hK
  u_cond true k_in hK
  u_c Ahf k_in hK
  refine Ahm λw₃ hK=>?_;refine⟨rfl,_,Agu (v:=.tuple #[]) (evs:=#[mk .enable]) rfl H.f_enable (Ahh L) (Ahi L) (Ahj L) (Ahk L) (by simp[Extern.Race.none_]) (by simp[mk]) (by simp[mk]),?_⟩
  u_leave0 H.f_add k_in hK
  exact Ahm λw₃ hK=>rfl
 obtain⟨V,hV⟩:∃V:Int,V=(v:Int)+1:=⟨_,rfl⟩;obtain⟨S,hS⟩:∃S:Int,S=V*KK:=⟨_,rfl⟩;have eS:IntKind.u64.wrap ((v:Int)*KK+4294967296)=S:=by rw[IntKind.wrap_u64,hS,hV];simp only[KK];omega
 rw[<-hV,<-hS];have a1:S / 4294967296=V:=by rw[hS];simp only[KK];omega
 have b1:bits .and .u64 S 2147483648=0:=by rw[hS,hV];have:=st_flag (v+1) 0 zP zP;simpa[KK]using this
 have b2:bits .and .u64 S 2147483647=0:=by rw[hS,hV];have:=st_waiters (v+1) 0 zP zP;simpa[KK]using this
 have c1:IntKind.i32.wrap V=V:=by rw[IntKind.wrap_i32];omega
 have hV1:1<V:=zP
 have hV2:V<2147483648:=zP
 have q1:(V==1)=false:=by simp;omega
 have q2:decide (V=1)=false:=decide_eq_false zP;have q3:decide (V<0)=false:=decide_eq_false zP;have q4:decide (0<V)=true:=decide_eq_true zP;have q5:(V==0)=false:=by simp;omega
 have q6:decide (V=0)=false:=decide_eq_false zP;refine⟨_,(stepG_add_atomic rfl rfl (by k_ne) rfl H.f_addU64 (x_addU64_n L) (x_addU64_b L) (x_addU64_x L) .u64 (x_addU64_f L) rfl rfl hw.cellSt (hw.thaw 0)).trans (by rw[eS];rfl),λh=>absurd h zP,λ_=>?_⟩;replace hK:=hKo.st w₂ S hK;clear hw hS hV eS
 walk_nrm
 u_op k_in hK
 u_c Agv k_in hK
 u_c Ahf k_in hK
 u_leave1 H.f_uAdd k_in hK
 u_op k_in hK
 u_c Agv k_in hK
 iterate 2 u_c Ahn k_in hK
 u_reg k_in hK
 iterate 4 u_op k_in hK
 iterate 2 u_skip k_in hK
 u_op k_in hK
 u_c Agv k_in hK
 u_cnd false k_in hK
 u_c Ahe k_in hK
 u_c Ahn k_in hK
 u_reg k_in hK
 iterate 4 u_op k_in hK
 u_c Agv k_in hK
 u_c Ahn k_in hK
 u_reg k_in hK
 iterate 4 u_op k_in hK
 u_c Agv k_in hK
 iterate 2 u_c Ahn k_in hK
 u_reg k_in hK
 iterate 10 u_op k_in hK
 u_c Agv k_in hK
 u_cnd false k_in hK
 u_c Ahe k_in hK
 iterate 2 u_c Ahn k_in hK
 u_reg k_in hK
 iterate 2 u_op k_in hK
 u_c Agv k_in hK
 u_cnd false k_in hK
 u_c Ahe k_in hK
 iterate 2 u_c Ahn k_in hK
 u_reg k_in hK
 iterate 3 u_op k_in hK
 iterate 2 u_skip k_in hK
 iterate 2 u_op k_in hK
 iterate 4 u_skip k_in hK
 u_op k_in hK
 u_c Agv k_in hK
 u_cnd false k_in hK
 u_c Ahe k_in hK
 iterate 2 u_c Ahn k_in hK
 u_reg k_in hK
 iterate 3 u_op k_in hK
 iterate 2 u_skip k_in hK
 u_op k_in hK
 u_c Agv k_in hK
 u_cnd true k_in hK
 u_c Ahf k_in hK
 refine Ahm λw₃ hK=>?_;refine⟨rfl,_,Agu (v:=.tuple #[]) (evs:=#[mk .enable]) rfl H.f_enable (Ahh L) (Ahi L) (Ahj L) (Ahk L) (by simp[Extern.Race.none_]) (by simp[mk]) (by simp[mk]),?_⟩
 u_leave0 H.f_add k_in hK
 exact Ahm λw₃ hK=>rfl
end
end
section
open Go.ConcR (KK wgBlock WgAt stA smA rd wr mk Payload Aside2 DC0)
variable [Payload] {P:pQ} {L:WgLink} {Wg:Nat} {K:wD->Prop}
def vS(_:wD):Prop:=True
variable (P Wg K L)
def WQ(f:gO)(g:gO)(u:wD):Prop:=g.status=.running/\∃e,stepG P true g u=.go e u #[mk (.acquire (stA Wg))]/\e.status=.running/\GK P vS (λg _=>g=f) 40 e u
def WE(f:gO)(g:gO)(u:wD):Prop:=g.status=.running/\∃e,stepG P true g u=.go e u #[mk .enable]/\GK P K (WQ P Wg f) 20 e u
def W4(f:gO)(g:gO)(u:wD):Prop:=g.status=.running/\(WgAt L.tWg Wg u 0 0->∃e,stepG P true g u=.go e u #[rd (stA Wg)]/\GK P K (WE P Wg K f) 40 e u)
def W3(f:gO)(g:gO)(u:wD):Prop:=g.status=.running/\g.offers=none/\((∃m,WgAt L.tWg Wg u m 0)->stepG P true g u=.go {g with status:=.blocked} u #[])/\
 (WgAt L.tWg Wg u 0 1->∃e,stepG P true g u=.go e (u.setCell (smA Wg) (.int .u32 0)) (semEvents (smA Wg))/\GK P K (W4 P L Wg K f) 60 e (u.setCell (smA Wg) (.int .u32 0)))
def WS(f:gO)(g:gO)(u:wD):Prop:=g.status=.running/\∃e,stepG P true g u=.go e u #[⟨.mark (.write (smA Wg)),false,true⟩]/\GK P K (W3 P L Wg K f) 60 e u
def Anch(c:fR)(cs:List fR)(g:gO)(_:wD):Prop:=
 ∃T:Array vL,g=G ((base L.wait).at ⟨T,[]⟩ [.code (L7 L),.inLoop (L7 L),.inBlock 0]) (c::cs)/\T.size=84/\T[0]? =some (.pointer (some ⟨Wg,0,none⟩))
def W2(m:gO)(c:fR)(cs:List fR)(f:Nat)(g:gO)(u:wD):Prop:=g.status=.running/\∀v:Nat,v<=f->WgAt L.tWg Wg u (v*KK) 0->
 (v=f->∃e,stepG P true g u=.go e (u.setCell (stA Wg) (.int .u64 (v*KK+1))) #[rd (stA Wg),wr (stA Wg)]/\GK P K (WS P L Wg K m) 60 e (u.setCell (stA Wg) (.int .u64 (v*KK+1))))/\
 (v<f->∃e,stepG P true g u=.go e u #[rd (stA Wg)]/\GK P K (Anch L Wg c cs) 20 e u)
def W1(f:gO)(c:fR)(cs:List fR)(g:gO)(u:wD):Prop:=g.status=.running/\∀v:Nat,v<2147483647->WgAt L.tWg Wg u (v*KK) 0->∃e,stepG P true g u=.go e u #[rd (stA Wg)]/\
 (v=0->GK P K (WE P Wg K f) 60 e u)/\(v≠0->GK P K (W2 P L Wg K f c cs v) 80 e u)
def W0(c:fR)(cs:List fR)(g:gO)(u:wD):Prop:=g.status=.running/\∃e,stepG P true g u=.go e u #[mk .disable]/\GK P K (Anch L Wg c cs) 5 e u
variable {P L Wg K}
def AQ(L:WgLink)(Wg:Nat)(cs:List fR):gO:=G ((base L.wait).at ⟨#[.pointer (some ⟨Wg,0,none⟩)]++Afc ((waitFn L).ntmps-1) ud,[]⟩ [.code (body_wait L)]) cs
omit [Payload] in
def Xz(H:WgLib P L){c:fR}(w:wD)(hK:K w):GK P K (W0 P L Wg K c cs) 6 (AQ L Wg (c::cs)) w:=by
 lib_facts
 unfold AQ;simp only[body_wait,waitFn,Agx,Ags,Agt,Nat.reduceSub]
 walk_nrm
 u_c Ahn k_in hK
 u_cond true k_in hK
 u_reg k_in hK
 refine Ahm λw₁ hK=>?_;refine⟨rfl,_,Ag5 .disable yW rfl rfl (by k_ne) rfl H.f_disable (Ag6 L) (Ag7 L) (Ag8 L) (Ag9 L),?_⟩
 walk_nrm
 u_c Agv k_in hK
 u_c stepG_block k_in hK
 u_c stepG_loop k_in hK
 exact Ahm λ_ _=>⟨_,rfl,yW,yW⟩
section
variable {b₀:fR} {a₀:Act} {ops₀:Array Oper} {i₀:Nat} {rest₀:List Nat} {k₀:List Item} {cs:List fR}
omit [Payload] in
def Lj(H:WgLib P L)(hKo:KOk L Wg K)(g:gO)(w:wD)(hK:K w)(h:Anch L Wg (b₀.at a₀ (.inRegion ops₀ (i₀::rest₀)::k₀)) cs g w):
 GK P K (W1 P L Wg K (G (b₀.at (a₀.put ((ops₀[i₀]?).bind (·.dst)) (.tuple #[])) (.inRegion ops₀ rest₀::k₀)) cs) (b₀.at a₀ (.inRegion ops₀ (i₀::rest₀)::k₀)) cs) 40 g w:=by
 lib_facts
 obtain⟨T,rfl,hT84,t0⟩:=h;obtain⟨v0,v1,v2,v3,v4,v5,v6,v7,v8,v9,v10,v11,v12,v13,v14,v15,v16,v17,v18,v19,v20,v21,v22,v23,v24,v25,v26,v27,v28,v29,v30,v31,v32,v33,v34,v35,v36,v37,v38,v39,v40,v41,v42,v43,v44,v45,v46,v47,v48,v49,v50,v51,v52,v53,v54,v55,v56,v57,v58,v59,v60,v61,v62,v63,v64,v65,v66,v67,v68,v69,v70,v71,v72,v73,v74,v75,v76,v77,v78,v79,v80,v81,v82,v83,rfl⟩:=array84 T hT84;simp only[List.getElem?_toArray,Ad5,oI]at t0;subst t0;simp only[L7,body_wait,waitFn,Agx]
 u_c stepG_block k_in hK
 u_c Ahn k_in hK
 u_reg k_in hK
 iterate 3 u_op k_in hK
 u_call H.f_uLoad (nm_uLoad L) uLoadFn k_in hK
 u_c Ahn k_in hK
 u_reg k_in hK
 u_op k_in hK
 u_c Agv k_in hK
 u_c Ahn k_in hK
 u_reg k_in hK
 iterate 3 u_op k_in hK
 refine Ahm λw₁ hK=>?_;refine⟨rfl,λv hv hw=>?_⟩
 rcases Af6 v with rfl|hvp
 ·replace hw:WgAt L.tWg Wg w₁ 0 0:=by simpa using hw
  refine⟨_,stepG_load_atomic (v:=0) rfl rfl (by k_ne) rfl H.f_loadU64 (Aha L) (Ahb L) (Ahc L) .u64 (Ahd L) rfl hw.cellSt,λ_=>?_,λh=>absurd rfl h⟩;clear hw
  walk_nrm
  u_op k_in hK
  u_c Agv k_in hK
  u_c Ahf k_in hK
  u_leave1 H.f_uLoad k_in hK
  u_op k_in hK
  u_c Agv k_in hK
  u_c Ahn k_in hK
  u_reg k_in hK
  iterate 4 u_op k_in hK
  u_c Agv k_in hK
  u_c Ahn k_in hK
  u_reg k_in hK
  iterate 4 u_op k_in hK
  u_c Agv k_in hK
  iterate 2 u_c Ahn k_in hK
  u_reg k_in hK
  iterate 2 u_op k_in hK
  u_c Agv k_in hK
  u_cond true k_in hK
  u_c Ahn k_in hK
  u_cond true k_in hK
  u_c Ahn k_in hK
  u_reg k_in hK
  refine Ahm λwe hK=>?_;refine⟨rfl,_,Ag5 .enable yW rfl rfl (by k_ne) rfl H.f_enable (Ahh L) (Ahi L) (Ahj L) (Ahk L),?_⟩
  walk_nrm
  u_c Agv k_in hK
  u_reg k_in hK
  u_op k_in hK
  u_conv H.underlying_tWgP H.room_tWg (WgLive.cell0 (hKo.live _ hK)).choose_spec k_in hK
  refine Ahm λwa hK=>?_;refine⟨rfl,_,Ag4 .acquire yW rfl rfl (by k_ne) rfl H.f_acquire (x_acquire_n L) (x_acquire_b L) (x_acquire_x L) (x_acquire_f L) (by simp[Ahq,stA]),rfl,?_⟩;clear hK;have hK:vS wa:=trivial
  walk_nrm
  u_c Agv k_in hK
  iterate 2 u_c Ahn k_in hK
  u_reg k_in hK
  iterate 8 u_op k_in hK
  iterate 2 u_skip k_in hK
  u_op k_in hK
  u_c Agv k_in hK
  u_cond false k_in hK
  u_c Ahe k_in hK
  u_c Ahf k_in hK
  u_leave0 H.f_wait k_in hK
  exact Ahm λ_ _=>rfl
 obtain⟨S,hS⟩:∃S:Int,(v:Int)*KK=S:=⟨_,rfl⟩;have a1:S / 4294967296=(v:Int):=by rw[<-hS];simp only[KK];omega
 have b1:bits .and .u64 S 2147483648=0:=by rw[<-hS];have:=st_flag v 0 zP zP;simpa[KK]using this
 have b2:bits .and .u64 S 2147483647=0:=by rw[<-hS];have:=st_waiters v 0 zP zP;simpa[KK]using this
 have c1:IntKind.i32.wrap (v:Int)=(v:Int):=by rw[IntKind.wrap_i32];omega
 have w1:IntKind.u64.wrap (S+1)=S+1:=by rw[IntKind.wrap_u64,<-hS];simp only[KK];omega
 have q3:decide ((v:Int)<0)=false:=decide_eq_false zP;have q4:decide (0<(v:Int))=true:=decide_eq_true zP;have q5:((v:Int)==0)=false:=by simp;omega
 have q6:decide ((v:Int)=0)=false:=decide_eq_false zP;rw[hS]at hw;refine⟨_,stepG_load_atomic (v:=S) rfl rfl (by k_ne) rfl H.f_loadU64 (Aha L) (Ahb L) (Ahc L) .u64 (Ahd L) rfl hw.cellSt,λh0=>absurd h0 zP,λ_=>?_⟩;clear hw
 walk_nrm
 u_op k_in hK
 u_c Agv k_in hK
 u_c Ahf k_in hK
 u_leave1 H.f_uLoad k_in hK
 u_op k_in hK
 u_c Agv k_in hK
 u_c Ahn k_in hK
 u_reg k_in hK
 iterate 4 u_op k_in hK
 u_c Agv k_in hK
 u_c Ahn k_in hK
 u_reg k_in hK
 iterate 4 u_op k_in hK
 u_c Agv k_in hK
 iterate 2 u_c Ahn k_in hK
 u_reg k_in hK
 iterate 2 u_op k_in hK
 u_c Agv k_in hK
 u_cnd false k_in hK
 u_c Ahe k_in hK
 u_c Ahn k_in hK
 u_reg k_in hK
 iterate 6 u_op k_in hK
 u_call H.f_uCas (nm_uCas L) uCasFn k_in hK
 u_c Ahn k_in hK
 u_reg k_in hK
 u_op k_in hK
 u_c Agv k_in hK
 u_c Ahn k_in hK
 u_reg k_in hK
 iterate 5 u_op k_in hK
 refine Ahm λw₂ hK=>?_;refine⟨rfl,λv' hv' hw=>⟨λe=>?_,λe=>?_⟩⟩
 ·subst e;rw[hS]at hw⊢;refine⟨_,(stepG_cas_hit (v:=S) (n:=S+1) rfl rfl (by k_ne) rfl H.f_casU64 (x_casU64_n L) (x_casU64_b L) (x_casU64_x L) .u64 (x_casU64_f L) rfl rfl rfl hw.cellSt (hw.thaw 0)).trans (by rfl),?_⟩;replace hK:=hKo.st w₂ (S+1) hK;clear hw
  walk_nrm
  u_op k_in hK
  u_c Agv k_in hK
  u_c Ahf k_in hK
  u_leave1 H.f_uCas k_in hK
  u_c Agv k_in hK
  u_cond true k_in hK
  iterate 2 u_c Ahn k_in hK
  u_reg k_in hK
  iterate 4 u_op k_in hK
  u_c Agv k_in hK
  u_cond true k_in hK
  u_reg k_in hK
  iterate 3 u_op k_in hK
  u_conv H.underlying_tPU32 H.room_tU32 (WgLive.cell1 (hKo.live _ hK)).choose_spec k_in hK
  refine Ahm λws hK=>?_;refine⟨rfl,_,Ag4 .write yW rfl rfl (by k_ne) rfl H.f_raceWrite (x_raceWrite_n L) (x_raceWrite_b L) (x_raceWrite_x L) (x_raceWrite_f L) (ad:=⟨Wg,1,none⟩) (by simp[Ahq]),?_⟩
  walk_nrm
  u_c Agv k_in hK
  u_c Ahn k_in hK
  u_reg k_in hK
  u_op k_in hK
  u_c Agv k_in hK
  iterate 2 u_c Ahn k_in hK
  u_reg k_in hK
  iterate 4 u_op k_in hK
  u_skip k_in hK
  u_op k_in hK
  u_c Agv k_in hK
  u_cond false k_in hK
  u_c Ahe k_in hK
  u_c Ahn k_in hK
  u_reg k_in hK
  iterate 4 u_op k_in hK
  refine Ahm λw₃ hK=>?_;refine⟨rfl,rfl,λ⟨st,hw⟩=>stepG_semacquire_wait rfl rfl rfl H.f_semacquire (x_semacquire_n L) (x_semacquire_b L) (x_semacquire_x L) (x_semacquire_f L) (by simp[Ahq,smA]) hw.cellSm,λhf=>?_⟩;refine⟨_,(stepG_semacquire (n:=1) rfl rfl (by k_ne) rfl H.f_semacquire (x_semacquire_n L) (x_semacquire_b L) (x_semacquire_x L) (x_semacquire_f L) (by simp[Ahq,smA]) hf.cellSm (by k_ne) (hf.thaw 1)).trans (by rfl),?_⟩;replace hK:=hKo.sm w₃ 0 hK;clear hf
  walk_nrm
  u_c Agv k_in hK
  u_c Ahn k_in hK
  u_reg k_in hK
  iterate 3 u_op k_in hK
  u_call H.f_uLoad (nm_uLoad L) uLoadFn k_in hK
  u_c Ahn k_in hK
  u_reg k_in hK
  u_op k_in hK
  u_c Agv k_in hK
  u_c Ahn k_in hK
  u_reg k_in hK
  iterate 3 u_op k_in hK
  refine Ahm λw₄ hK=>?_;refine⟨rfl,λhw=>⟨_,stepG_load_atomic (v:=0) rfl rfl (by k_ne) rfl H.f_loadU64 (Aha L) (Ahb L) (Ahc L) .u64 (Ahd L) rfl hw.cellSt,?_⟩⟩;clear hw
  walk_nrm
  u_op k_in hK
  u_c Agv k_in hK
  u_c Ahf k_in hK
  u_leave1 H.f_uLoad k_in hK
  iterate 2 u_op k_in hK
  u_c Agv k_in hK
  u_c Ahn k_in hK
  u_cond true k_in hK
  u_c Ahn k_in hK
  u_reg k_in hK
  refine Ahm λwe hK=>?_;refine⟨rfl,_,Ag5 .enable yW rfl rfl (by k_ne) rfl H.f_enable (Ahh L) (Ahi L) (Ahj L) (Ahk L),?_⟩
  walk_nrm
  u_c Agv k_in hK
  u_reg k_in hK
  u_op k_in hK
  u_conv H.underlying_tWgP H.room_tWg (WgLive.cell0 (hKo.live _ hK)).choose_spec k_in hK
  refine Ahm λwa hK=>?_;refine⟨rfl,_,Ag4 .acquire yW rfl rfl (by k_ne) rfl H.f_acquire (x_acquire_n L) (x_acquire_b L) (x_acquire_x L) (x_acquire_f L) (by simp[Ahq,stA]),rfl,?_⟩;clear hK;have hK:vS wa:=trivial
  walk_nrm
  u_c Agv k_in hK
  iterate 2 u_c Ahn k_in hK
  u_reg k_in hK
  u_op k_in hK
  u_c Agv k_in hK
  u_cond false k_in hK
  u_c Ahe k_in hK
  u_c Ahf k_in hK
  u_leave0 H.f_wait k_in hK
  exact Ahm λ_ _=>rfl
 refine⟨_,stepG_cas_miss (v:=(v':Int)*KK) (old:=S) (n:=S+1) rfl rfl (by k_ne) rfl H.f_casU64 (x_casU64_n L) (x_casU64_b L) (x_casU64_x L) .u64 (x_casU64_f L) rfl rfl rfl hw.cellSt (hw.thaw 0) (by rw[<-hS];simp only[KK];omega),?_⟩;clear hw
 walk_nrm
 u_op k_in hK
 u_c Agv k_in hK
 u_c Ahf k_in hK
 u_leave1 H.f_uCas k_in hK
 u_c Agv k_in hK
 u_cond false k_in hK
 u_c Ahe k_in hK
 u_c stepG_inBlock k_in hK
 u_c stepG_inLoop k_in hK
 exact Ahm λ_ _=>⟨_,rfl,yW,yW⟩
end
end
end Go.Tp
namespace Go.Tp
open Go.Conc Go.RowKit
variable {i d:Nat} {u':wD} {c:Code}
def Does.still(H:Hold)(u:wD):Does H H u u:=⟨nR _,λ_ _ _=>rfl,λ_ h=>.inl h,λ_ h=>h,rfl,rfl,rfl,rfl⟩
def Hold.more(H:Hold)(u u':wD):Hold:=⟨λb=>H.mine b\/(u.heap.size<=b/\b<u'.heap.size),H.sh⟩
theorem Does.alloc(H:Hold)(u:wD)(o:Obj):Does H (H.more u (u.alloc o)) u (u.alloc o):=
 ⟨yW,λ_ e _=>Below.heap_alloc u o _ e,λ_ h=>h,λ_ h=>.inl h,rfl,rfl,rfl,rfl⟩
theorem xZ(u:wD)(a:aD)(v:vL){b:Nat}(h:b≠a.block):(u.setCell a v).heap[b]? =u.heap[b]? :=Below.heap_setCell u a v b h
theorem Does.set(H:Hold)(u:wD)(a:aD)(v:vL)(h:H.mine a.block):Does H H u (u.setCell a v):=
 ⟨yW,λb _ f=>xZ u a v λe=>f (e▸h),λ_ x=>.inl x,λ_ x=>x,rfl,rfl,rfl,rfl⟩
theorem Does.trans{H H' m:Hold}{u p:wD}(h:Does H H' u u')(e:Does H' m u' p):Does H m u p:=by
 have:=h.size;have:=e.size;refine⟨Agd h.size e.size,λb f r=>?_,λb f=>?_,λb f=>e.more b (h.more b f),e.sh.trans h.sh,e.same.1.trans h.same.1,e.same.2.1.trans h.same.2.1,e.same.2.2.trans h.same.2.2⟩
 ·rw[e.keep b (nL f h.size) λhx=>(h.mine b hx).elim r λy=>absurd f (Nat.not_lt.2 y.1),h.keep b f r]
 rcases e.mine b f with x|x
 ·rcases h.mine b x with x|x
  ·exact .inl x
  exact .inr zP
 exact .inr zP
section
variable {P:pQ} {mn:Bool} {Stop:Hold->gO->wD->Prop} {H:Hold} {u:wD} {b:fR} {a:Act} {k:List Item} {cs:List fR} {ops:Array Oper}
def mQ{fr fr':fR}(e:∀u',stepG P mn (G fr cs) u'=.go (G fr' cs) u' #[])(h:aH P mn Stop (H,G fr' cs,u)):aH P mn Stop (H,G fr cs,u):=
 aH.step' rfl λu' f=>⟨(H,G fr' cs,u'),h.rely f,#[],e u',.still H u',yW⟩
def mV{x y:Code}(h:aH P mn Stop (H,G (b.at a (.code x:: .code y::k)) cs,u)):aH P mn Stop (H,G (b.at a (.code (.seq x y)::k)) cs,u):=
 mQ (λu'=>by simp[G,stepG,Afu,Ahr]) h
def XA(h:aH P mn Stop (H,G (b.at a k) cs,u)):aH P mn Stop (H,G (b.at a (.code .skip::k)) cs,u):=mQ (λu'=>by simp[G,stepG,Afu,Ahr]) h
def XB(h:aH P mn Stop (H,G (b.at a k) cs,u)):aH P mn Stop (H,G (b.at a (.inBlock i::k)) cs,u):=mQ (λu'=>by simp[G,stepG,Afu,Ahr]) h
def Ll(h:aH P mn Stop (H,G (b.at a (.code c:: .inBlock i::k)) cs,u)):aH P mn Stop (H,G (b.at a (.code (.block i c)::k)) cs,u):=mQ (λu'=>by simp[G,stepG,Afu,Ahr]) h
def XC(h:aH P mn Stop (H,G (b.at a (.code c:: .inLoop c::k)) cs,u)):aH P mn Stop (H,G (b.at a (.code (.loop c)::k)) cs,u):=mQ (λu'=>by simp[G,stepG,Afu,Ahr]) h
def XD(h:aH P mn Stop (H,G (b.at a (.code c:: .inLoop c::k)) cs,u)):aH P mn Stop (H,G (b.at a (.inLoop c::k)) cs,u):=mQ (λu'=>by simp[G,stepG,Afu,Ahr]) h
def XE{e:List Item}(he:exitTo i k=some e)(h:aH P mn Stop (H,G (b.at a e) cs,u)):aH P mn Stop (H,G (b.at a (.code (.exit i)::k)) cs,u):=mQ (λu'=>by simp[G,stepG,Afu,Ahr,he]) h
def Lm{c:Operand}{x y:Code}(t:Bool)(hc:a.eval c=.bool t)(h:aH P mn Stop (H,G (b.at a (.code (if t then x else y)::k)) cs,u)):aH P mn Stop (H,G (b.at a (.code (.cond c x y)::k)) cs,u):=
 mQ (λu'=>by have e:=Frame.eval_at' b a (.code (.cond c x y)::k);simp only[Ahr]at e;simp[G,stepG,Afu,Ahr,e,hc]) h
def qh(h:aH P mn Stop (H,G (b.at a (.inRegion ops (Aes ops.size)::k)) cs,u)):aH P mn Stop (H,G (b.at a (.code (.region i ops false)::k)) cs,u):=mQ (λu'=>by simp[G,stepG,Afu,Ahr]) h
def oM(h:aH P mn Stop (H,G (b.at a k) cs,u)):aH P mn Stop (H,G (b.at a (.inRegion ops []::k)) cs,u):=mQ (λu'=>by simp[G,stepG,Afu,Ahr]) h
def Lp{rest:List Nat}{o:Oper}(s:ops[i]? =some o)(J:Ag2 o (Ahs ops a.tmps)=true)(A:b.kind≠.early)(h:∀u',Off H u u'->∃v f u1,(Ahv a.eval o).run P u'=.ok (.value v) u1/\Does H f u' u1/\(∀e∈Aht P b.fn a o u',EvO f e)/\aH P mn Stop (f,G (b.at (a.put o.dst v) (.inRegion ops rest::k)) cs,u1)):
 aH P mn Stop (H,G (b.at a (.inRegion ops (i::rest)::k)) cs,u):=
 aH.step' rfl λu' r=>by
  obtain⟨v,f,u1,E,x,y,hn⟩:=h u' r;refine⟨(f,_,u1),hn,Aht P b.fn a o u',?_,x,y⟩;have m:(b.at a (.inRegion ops (i::rest)::k)).finish v=b.at (a.put o.dst v) (.inRegion ops rest::k):=by rw[Ag0,s];rfl
  have p:(b.kind==CallKind.early)=false:=by simpa using A
  rw[stepG_oper s J,<-m];simp[stepG.apply,E,G,Ahr,p,Ac8,Aht]
end
section
variable {P:pQ} {mn:Bool} {Stop:Hold->gO->wD->Prop} {H:Hold} {u:wD} {b:fR} {a:Act} {k:List Item} {cs:List fR} {ops:Array Oper} {i:Nat} {rest:List Nat} {o:Oper}
def Lr(r:ops[i]? =some o)(s:Ag2 o (Ahs ops a.tmps)=true)(m:b.kind≠.early)(v:vL)(hr:∀u',Off H u u'->(Ahv a.eval o).run P u'=.ok (.value v) u')(he:∀u',Off H u u'->∀e∈(Ahv a.eval o).events P u' #[],EvO H e)(h:aH P mn Stop (H,G (b.at (a.put o.dst v) (.inRegion ops rest::k)) cs,u)):aH P mn Stop (H,G (b.at a (.inRegion ops (i::rest)::k)) cs,u):=
 Lp r s m λu' f=>⟨v,H,u',hr u' f,.still H u',λe p=>he u' f e (mem_listed p),h.rely f⟩
def XF(p:ops[i]? =some o)(r:Ag2 o (Ahs ops a.tmps)=true)(m:b.kind≠.early)(v:vL)(hr:∀u',(Ahv a.eval o).run P u'=.ok (.value v) u')(he:∀u',(Ahv a.eval o).events P u' #[]=#[])(h:aH P mn Stop (H,G (b.at (a.put o.dst v) (.inRegion ops rest::k)) cs,u)):aH P mn Stop (H,G (b.at a (.inRegion ops (i::rest)::k)) cs,u):=
 Lr p r m v (λu' _=>hr u') (λu' _ e f=>by rw[he]at f;simp at f) h
def XG(r:ops[i]? =some o)(s:Ag2 o (Ahs ops a.tmps)=true)(m:b.kind≠.early)(v:Nat->vL)(x:Obj)(hr:∀u',(Ahv a.eval o).run P u'=.ok (.value (v u'.heap.size)) (u'.alloc x))(he:∀u',(Ahv a.eval o).events P u' #[]=#[])(h:∀u',Off H u u'->aH P mn Stop (H.more u' (u'.alloc x),G (b.at (a.put o.dst (v u'.heap.size)) (.inRegion ops rest::k)) cs,u'.alloc x)):aH P mn Stop (H,G (b.at a (.inRegion ops (i::rest)::k)) cs,u):=
 Lp r s m λu' f=>⟨_,_,_,hr u',.alloc H u' x,λe p=>by have:=mem_listed p;rw[he]at this;simp at this,h u' f⟩
def XH(y:ops[i]? =some o)(E:Ag2 o (Ahs ops a.tmps)=true)(s:b.kind≠.early)(h:∀u',Off H u u'->∃f u1,(Ahv a.eval o).run P u'=.ok .skip u1/\Does H f u' u1/\(∀e∈(Ahv a.eval o).events P u' #[],EvO f e)/\aH P mn Stop (f,G (b.at (a.put o.dst ud) (.inRegion ops rest::k)) cs,u1)):
 aH P mn Stop (H,G (b.at a (.inRegion ops (i::rest)::k)) cs,u):=
 aH.step' rfl λu' m=>by obtain⟨f,u1,A,p,r,hn⟩:=h u' m;exact⟨(f,_,u1),hn,_,stepG_none y E s A,p,λe x=>r e (mem_listed x)⟩
structure Put (a a':Act) (d:Nat) (v:vL):Prop where
 size:a'.tmps.size=a.tmps.size
 defers:a'.defers=a.defers
 same:a'.tmps[d]?.getD ud=v
 other:∀j,j≠d->a'.tmps[j]?.getD ud=a.tmps[j]?.getD ud
def ev(a:Act)(i:Nat):a.eval (.tmp i)=a.tmps[i]?.getD ud:=by simp[Ahq]
theorem dU(a:Act)(v:vL)(e:d<a.tmps.size):Put a (a.put (some d) v) d v:=
 ⟨by simp[Act.put],rfl,by rw[<-ev];exact Act.eval_put_same a d v e,λj f=>by rw[<-ev,<-ev];exact Act.eval_put_ne a d j v (Ne.symm f)⟩
def Ls(r:ops[i]? =some o)(s:Ag2 o (Ahs ops a.tmps)=true)(p:b.kind≠.early)(f:o.dst=some d)(m:d<a.tmps.size)(v:vL)(hr:∀u',Off H u u'->(Ahv a.eval o).run P u'=.ok (.value v) u')(he:∀u',Off H u u'->∀e∈(Ahv a.eval o).events P u' #[],EvO H e)(h:∀a',Put a a' d v->aH P mn Stop (H,G (b.at a' (.inRegion ops rest::k)) cs,u)):aH P mn Stop (H,G (b.at a (.inRegion ops (i::rest)::k)) cs,u):=
 Lr r s p v hr he (by rw[f];exact h _ (dU a v m))
def mW(p:ops[i]? =some o)(r:Ag2 o (Ahs ops a.tmps)=true)(m:b.kind≠.early)(e:o.dst=some d)(f:d<a.tmps.size)(v:vL)(hr:∀u',(Ahv a.eval o).run P u'=.ok (.value v) u')(he:∀u',(Ahv a.eval o).events P u' #[]=#[])(h:∀a',Put a a' d v->aH P mn Stop (H,G (b.at a' (.inRegion ops rest::k)) cs,u)):aH P mn Stop (H,G (b.at a (.inRegion ops (i::rest)::k)) cs,u):=
 XF p r m v hr he (by rw[e];exact h _ (dU a v f))
def XI(r:ops[i]? =some o)(s:Ag2 o (Ahs ops a.tmps)=true)(p:b.kind≠.early)(e:o.dst=some d)(m:d<a.tmps.size)(v:Nat->vL)(x:Obj)(hr:∀u',(Ahv a.eval o).run P u'=.ok (.value (v u'.heap.size)) (u'.alloc x))(he:∀u',(Ahv a.eval o).events P u' #[]=#[])(h:∀u',Off H u u'->∀a',Put a a' d (v u'.heap.size)->aH P mn Stop (H.more u' (u'.alloc x),G (b.at a' (.inRegion ops rest::k)) cs,u'.alloc x)):aH P mn Stop (H,G (b.at a (.inRegion ops (i::rest)::k)) cs,u):=
 XG r s p v x hr he λu' f=>by rw[e];exact h u' f _ (dU a _ m)
def XJ(s:ops[i]? =some o)(x:Ag2 o (Ahs ops a.tmps)=true)(r:b.kind≠.early)(f:o.dst=none)(h:∀u',Off H u u'->∃m u1,(Ahv a.eval o).run P u'=.ok .skip u1/\Does H m u' u1/\(∀e∈(Ahv a.eval o).events P u' #[],EvO m e)/\aH P mn Stop (m,G (b.at a (.inRegion ops rest::k)) cs,u1)):
 aH P mn Stop (H,G (b.at a (.inRegion ops (i::rest)::k)) cs,u):=
 XH s x r λu' p=>by rw[f];exact h u' p
def mX(f:Off H u u'){p:aD}{v:vL}(e:H.mine p.block\/H.sh p.block)(hc:u.cell? p=some v):u'.cell? p=some v:=by rw[World.cell?_of_block (w:=u) (f.keep p.block (World.block_lt_of_cell? u p hc) e)];exact hc
def EL{n:Nat}{x:Obj}(f:Off H u u')(e:H.mine n\/H.sh n)(hc:u.heap[n]? =some x):u'.heap[n]? =some x:=by rw[f.keep n (aS.1 hc).1 e];exact hc
end
end Go.Tp
namespace Go.Tp
open Go.Conc Go.ConcN Go.RowKit Go.Conc.Lib Go.ConcR.Gen Go.ConcN.Gen
section
open Go.ConcR (KK wgBlock WgAt stA smA rd wr mk Payload Aside2 DC0)
section
variable [Payload] {P:pQ} {φ:Ph} {Fin:Hold->gO->wD->Prop} {L:WgLink} {Hd:Hold} {u0:wD}
theorem AU{tag:Tg}{ρ:Nat}{S:gO->wD->Prop}(p:∀g u,S g u->KG φ Hd u0 u->aZ P φ Fin ρ tag (Hd,g,u)):
 ∀{m:Nat} {g:gO} {u:wD},Goes P true (InK (KG φ Hd u0)) DC0 S m g u->KG φ Hd u0 u->aZ P φ Fin (ρ+m+1) tag (Hd,g,u)
 |0,g,u,h,hk=>aZ.le zP (p _ _ (h u hk) hk)
 |m+1,g,u,h,hk=>by
  rcases h with h|⟨E,h⟩
  ·exact aZ.le zP (p _ _ (h u hk) hk)
  refine .stop E λu' A=>.inr λy=>?_;have e:KG φ Hd u0 u':=⟨y,hk.2.trans A⟩;have f:=h u' e
  cases r:stepG P true g u'<;>rw[r]at f<;>simp only[Ahg]at f
  rename_i s w' G;obtain⟨⟨rfl,rfl⟩,x⟩:=f;exact⟨s,rfl,AU p x e⟩
omit [Payload] in
def Lu{a:aD}{v:vL}(h:¬(Hd.mine a.block\/Hd.sh a.block))(u:wD):Off Hd u (u.setCell a v):=
 ⟨yW,λb _ f=>xZ u a v λe=>h (e▸f),rfl,rfl,rfl⟩
omit [Payload] in
def kOk(m:φ.tw=L.tWg)(e:¬(Hd.mine φ.f.Wg\/Hd.sh φ.f.Wg)):KOk L φ.f.Wg (KG φ Hd u0):=by refine⟨λu h=>m▸h.1,λu v ⟨⟨r,p,h⟩,f⟩=>⟨⟨v,p,h.setSt v⟩,f.trans (Lu e u)⟩,λu v ⟨⟨r,p,h⟩,f⟩=>⟨⟨r,v,h.setSm v⟩,f.trans (Lu e u)⟩⟩
section
variable {b₀:fR} {a₀:Act} {ops₀:Array Oper} {i₀:Nat} {rest₀:List Nat} {k₀:List Item} {cs:List fR}
def XK(H:WgLib P L)(A:φ.tw=L.tWg)(E:¬(Hd.mine φ.f.Wg\/Hd.sh φ.f.Wg)){j ρ:Nat}(Q:j<φ.n)(O:∀u,KG φ Hd u0 u->aZ P φ Fin ρ (.go j) (Hd,G (b₀.at (a₀.put ((ops₀[i₀]?).bind (·.dst)) (.tuple #[])) (.inRegion ops₀ rest₀::k₀)) cs,u))(u:wD)(f:KG φ Hd u0 u):
 aZ P φ Fin (ρ+400) (.idle j) (Hd,AP L φ.f.Wg (b₀.at a₀ (.inRegion ops₀ (i₀::rest₀)::k₀)::cs),u):=by
 have s:=kOk (Hd:=Hd) (u0:=u0) A E;have J:∀g u,A3 P (KG φ Hd u0) (G (b₀.at (a₀.put ((ops₀[i₀]?).bind (·.dst)) (.tuple #[])) (.inRegion ops₀ rest₀::k₀)) cs) g u->KG φ Hd u0 u->g.status=.running/\Spec P φ Fin (aZ P φ Fin (ρ+5)) (.en j) Hd g u:=λg u ⟨p,m,r,x⟩ f=>⟨p,m,r,aZ.le (ρ:=ρ+4+1) zP (AU (λg u e f=>by subst e;exact O u f) x f)⟩
 have h2:∀g u,A2 P φ.f.Wg (KG φ Hd u0) (G (b₀.at (a₀.put ((ops₀[i₀]?).bind (·.dst)) (.tuple #[])) (.inRegion ops₀ rest₀::k₀)) cs) g u->KG φ Hd u0 u->g.status=.running/\Spec P φ Fin (aZ P φ Fin (ρ+86)) (.said j) Hd g u:=λg u ⟨p,m,r,x⟩ f=>⟨p,m,r,aZ.le zP (iT J x f)⟩
 have N:∀g u,A1 P φ.f.Wg (KG φ Hd u0) L.tWg (G (b₀.at (a₀.put ((ops₀[i₀]?).bind (·.dst)) (.tuple #[])) (.inRegion ops₀ rest₀::k₀)) cs) g u->KG φ Hd u0 u->g.status=.running/\Spec P φ Fin (aZ P φ Fin (ρ+170)) (.add j) Hd g u:=by
  intro g u ⟨p,h⟩ f;refine⟨p,λv S T=>?_⟩;obtain⟨m,r,c0,c1⟩:=h v S (A▸T);have y:=s.st u ((v+1)*KK) f;refine⟨m,r,?_⟩;by_cases e:v=0
  ·rw[if_pos e];exact aZ.le zP (iT h2 (c0 e) y)
  rw[if_neg e];exact aZ.le zP (iT J (c1 e) y)
 have M:∀g u,A0 P φ.f.Wg (KG φ Hd u0) L.tWg (G (b₀.at (a₀.put ((ops₀[i₀]?).bind (·.dst)) (.tuple #[])) (.inRegion ops₀ rest₀::k₀)) cs) g u->KG φ Hd u0 u->g.status=.running/\Spec P φ Fin (aZ P φ Fin (ρ+240)) (.idle j) Hd g u:=λg u ⟨p,m,r,x⟩ f=>⟨p,m,r,by rw[if_pos Q];exact aZ.le zP (iT N x f)⟩
 exact aZ.le zP (iT M (Xy H s u f) f)
def XL(H:WgLib P L)(y:φ.tw=L.tWg)(U:¬(Hd.mine φ.f.Wg\/Hd.sh φ.f.Wg))(hF:∀g u,KG φ Hd u0 u->GK P vS (λg _=>g=G (b₀.at (a₀.put ((ops₀[i₀]?).bind (·.dst)) (.tuple #[])) (.inRegion ops₀ rest₀::k₀)) cs) 40 g u->Fin Hd g u):
 ∀u,KG φ Hd u0 u->aZ P φ Fin (320+500*φ.n) (.idle φ.n) (Hd,AQ L φ.f.Wg (b₀.at a₀ (.inRegion ops₀ (i₀::rest₀)::k₀)::cs),u):=by
 have E:=kOk (Hd:=Hd) (u0:=u0) y U;generalize Q:G (b₀.at (a₀.put ((ops₀[i₀]?).bind (·.dst)) (.tuple #[])) (.inRegion ops₀ rest₀::k₀)) cs=O at hF;have hQ:∀g u,WQ P φ.f.Wg O g u->KG φ Hd u0 u->g.status=.running/\Spec P φ Fin (aZ P φ Fin 0) .acq Hd g u:=λg u ⟨p,r,s,W,x⟩ f=>⟨p,r,s,W,hF r u f x⟩;have T:∀g u,WE P φ.f.Wg (KG φ Hd u0) O g u->KG φ Hd u0 u->g.status=.running/\Spec P φ Fin (aZ P φ Fin 30) .wen Hd g u:=λg u ⟨p,r,s,x⟩ f=>⟨p,r,s,aZ.le zP (iT hQ x f)⟩;have h4:∀g u,W4 P L φ.f.Wg (KG φ Hd u0) O g u->KG φ Hd u0 u->g.status=.running/\Spec P φ Fin (aZ P φ Fin 80) .ld2 Hd g u:=by intro g u ⟨p,h⟩ f;refine⟨p,λA=>?_⟩;obtain⟨r,s,x⟩:=h (y▸A);exact⟨r,s,aZ.le zP (iT T x f)⟩
 have h3:∀g u,W3 P L φ.f.Wg (KG φ Hd u0) O g u->KG φ Hd u0 u->g.status=.running/\Spec P φ Fin (aZ P φ Fin 150) .sem Hd g u:=by intro g u ⟨p,ho,hb,h⟩ f;refine⟨p,ho,λ⟨st,A⟩=>hb ⟨st,y▸A⟩,λA=>?_⟩;obtain⟨r,s,x⟩:=h (y▸A);exact⟨r,s,aZ.le zP (iT h4 x (E.sm u 0 f))⟩
 have hS:∀g u,WS P L φ.f.Wg (KG φ Hd u0) O g u->KG φ Hd u0 u->g.status=.running/\Spec P φ Fin (aZ P φ Fin 220) .sw Hd g u:=λg u ⟨p,r,s,x⟩ f=>⟨p,r,s,aZ.le zP (iT h3 x f)⟩;have J:∀m,m<=φ.n->∀N,N<=m->∀g u,KG φ Hd u0 u->Anch L φ.f.Wg (b₀.at a₀ (.inRegion ops₀ (i₀::rest₀)::k₀)) cs g u->aZ P φ Fin (300+500*m) (.ld N) (Hd,g,u):=by
  intro m
  induction m with
  |zero=>
   intro _;intro N hm g u f M;have X:=φ.small;have p:=Lj (P:=P) H E g u f M;rw[Q]at p;refine aZ.le (ρ:=200+40+1) zP (iT (λg u ⟨p,h⟩ f=>⟨p,λv hv A=>?_⟩) p f);obtain⟨r,s,c0,c1⟩:=h v zP (y▸A);obtain rfl:v=0:=zP
   exact⟨r,s,by rw[if_pos rfl];exact aZ.le zP (iT T (c0 rfl) f)⟩
  |succ m S=>
   intro hm;have S:=S zP;have X:=φ.small;intro N aa g u f M;generalize Z:300+500*m=ρ at S;by_cases V:N<=m
   ·exact aZ.le zP (S N V g u f M)
   have p:=Lj (P:=P) H E g u f M;rw[Q]at p;refine aZ.le (ρ:=(ρ+400)+40+1) zP (iT (λg u ⟨p,h⟩ f=>⟨p,λv hv A=>?_⟩) p f);obtain⟨r,s,c0,c1⟩:=h v zP (y▸A);refine⟨r,s,?_⟩;by_cases e:v=0
   ·rw[if_pos e];exact aZ.le zP (iT T (c0 e) f)
   rw[if_neg e];refine aZ.le (ρ:=(ρ+300)+80+1) zP (iT (λg u ⟨p,h⟩ f=>⟨p,λv' Y A=>?_⟩) (c1 e) f);obtain⟨d1,d2⟩:=h v' Y (y▸A);refine⟨λe=>?_,λe=>?_⟩
   ·obtain⟨r,s,x⟩:=d1 e;exact⟨r,s,aZ.le zP (iT hS x (E.st u _ f))⟩
   obtain⟨r,s,x⟩:=d2 e;exact⟨r,s,aZ.le zP (AU (λg u M f=>S v' zP g u f M) x f)⟩
 have J:=J φ.n (nR _);generalize Z:300+500*φ.n=ρ at J;intro u f;refine aZ.le (ρ:=(ρ+6)+6+1) zP (iT (λg u ⟨p,r,s,x⟩ f=>⟨p,r,s,?_⟩) (Xz H u f) f);rw[if_neg zP];exact aZ.le zP (AU (λg u M f=>J φ.n (nR _) g u f M) x f)
end
omit [Payload] in
theorem LC{mn:Bool}{e:gO}(r:e.status=.running):∀{m:Nat} {g:gO} {u:wD},Goes P mn (InK vS) DC0 (λg _=>g=e) m g u->aH P mn (λH g _=>H=Hd/\g=e) (Hd,g,u)
 |0,g,u,h=>by obtain rfl:g=e:=h u trivial;exact .stop r λ_ _=>⟨rfl,rfl⟩
 |m+1,g,u,h=>by
  rcases h with h|⟨y,h⟩
  ·obtain rfl:g=e:=h u trivial;exact .stop r λ_ _=>⟨rfl,rfl⟩
  refine aH.step' y λu' E=>?_;have p:=h u' trivial
  cases f:stepG P mn g u'<;>rw[f]at p<;>simp only[Ahg]at p
  rename_i s w' A;obtain⟨⟨rfl,rfl⟩,x⟩:=p;exact⟨(Hd,s,w'),LC r x,#[],f,.still _ _,yW⟩
end
end
end Go.Tp
namespace Go.Tp
open Go.Conc
variable {v:vL} {u:wD} {F:fI->Bool}
section
def mY(D:Nat->Prop)(u:wD)(b:Nat):Prop:=D b/\∃c t z,u.heap[b]? =some (.cells c t z)
def mZ(F:fI->Bool)(K:Nat->Prop):vL->Prop
 |.bool _|.int .. |.string _|.pointer none|.slice none .. |.chan _|.nilFunc|.nilIface=>True
 |.pointer (some a)=>K a.block
 |.slice (some a) _ _=>K a.block
 |.func (.func f) a c=>F f=true/\a=#[]/\c=#[]
 |_=>False
def blank:vL->vL
 |.func (.method _) _ _=>.nilFunc
 |_=>.tuple #[]
open Classical in
def oN(F:fI->Bool)(K:Nat->Prop):vL->vL
 |.agg c=>.agg (c.attach.map λx=>oN F K x.1)
 |.tuple c=>.tuple (c.attach.map λx=>oN F K x.1)
 |v=>if mZ F K v then v else blank v
termination_by v=>v
decreasing_by
 all_goals
  have h:=Agq x.2
  simp_wf
  omega
open Classical in
def LD{K:Nat->Prop}(h1:∀c,v=.agg c->False)(h2:∀c,v=.tuple c->False):oN F K v=if mZ F K v then v else blank v:=by
 rw[oN]
 ·exact h1
 exact h2
def LG{K:Nat->Prop}(h:mZ F K v):oN F K v=v:=by rw[LD (λc e=>by subst e;exact h) (λc e=>by subst e;exact h),if_pos h]
def RK(D:Nat->Prop)(u:wD):Rl:=⟨λb e=>b=e/\mY D u b,λr f=>r=f,λ_=>False⟩
def mZ.vr{D:Nat->Prop}(h:mZ F (mY D u) v):VR F (RK D u) v v:=by
 cases v with
 |bool b=>exact .bool b
 |int k n=>exact .int k n
 |string s=>exact .string s
 |pointer a=>cases a with
  |none=>exact .nilPointer
  |some a=>obtain⟨b,o,s⟩:=a;exact .pointer (.mk o s ⟨rfl,h⟩)
 |slice a n c=>cases a with
  |none=>exact .nilSlice n c
  |some a=>obtain⟨b,o,s⟩:=a;exact .slice n c (.mk o s ⟨rfl,h⟩)
 |chan r=>cases r with
  |none=>exact .nilChan
  |some r=>exact .chan rfl
 |func f a c=>cases f with
  |func f=>obtain⟨m,rfl,rfl⟩:=h;exact .func f m rfl (λi v p e=>by simp at e) rfl (λi v p e=>by simp at e)
  |_=>exact h.elim
 |nilFunc=>exact .nilFunc
 |nilIface=>exact .nilIface
 |_=>exact h.elim
def XM{D:Nat->Prop}(h1:∀c,v=.agg c->False)(h2:∀c,v=.tuple c->False):VR F (RK D u) (oN F (mY D u) v) v:=by
 by_cases hn:mZ F (mY D u) v
 ·rw[LG hn];exact hn.vr
 rw[LD h1 h2,if_neg hn]
 cases v with
 |agg c=>exact(h1 c rfl).elim
 |tuple c=>exact(h2 c rfl).elim
 |bool b=>exact absurd trivial hn
 |pointer a=>cases a with
  |none=>exact absurd trivial hn
  |some a=>exact .poison trivial
 |nilIface=>exact absurd trivial hn
 |nilFunc=>exact absurd trivial hn
 |func f a c=>cases f with
  |method n=>exact .shut
  |_=>exact .poison trivial
 |_=>exact .poison trivial
theorem EM{F:fI->Bool}{D:Nat->Prop}{u:wD}(v:vL):VR F (RK D u) (oN F (mY D u) v) v:=by
 match v with
 |.agg c=>
  rw[oN];refine .agg yW λi x f h m=>?_;have p:=Af3 m;rw[Aea]at h;obtain⟨y,r,rfl⟩:=Ht.1 h;have:y.1=f:=by grind
  rw[this];exact EM f
 |.tuple c=>
  rw[oN];refine .tuple yW λi x f h m=>?_;have p:=Af3 m;rw[Aea]at h;obtain⟨y,r,rfl⟩:=Ht.1 h;have:y.1=f:=by grind
  rw[this];exact EM f
 |.bool _|.int .. |.float .. |.complex .. |.string _|.pointer _|.slice .. |.map _|.chan _|.func .. |.nilFunc|.iface .. |.nilIface=>exact XM (λc e=>by cases e) (λc e=>by cases e)
termination_by v
decreasing_by
 all_goals
  have h:=Agq p
  simp_wf
  omega
def shut(F:fI->Bool)(K:Nat->Prop):Obj->Obj
 |.cells c t _=>.cells (c.map (oN F K)) t (0,c.size)
 |_=>.cells #[] 0 (0,0)
def frz(F:fI->Bool)(D:Nat->Prop)(u:wD):wD:={u with heap:=u.heap.map (shut F (mY D u))}
variable {F:fI->Bool} {D:Nat->Prop}
def AV(u:wD)(b:Nat):(frz F D u).heap[b]? =(u.heap[b]?).map (shut F (mY D u)):=by simp[frz]
def EN(u:wD):(frz F D u).heap.size=u.heap.size:=by simp[frz]
def EO{a:aD}(h:u.cell? a=some v)(hn:mZ F (mY D u) v):(frz F D u).cell? a=some v:=by
 unfold Aeq at h⊢;rw[AV]
 cases e:u.heap[a.block]? with
 |none=>rw[e]at h;cases h
 |some o=>
  rw[e]at h
  cases o with
  |cells c t z=>
   simp only[Aaw,shut]at h⊢
   split at h
   ·cases h
   rw[if_neg (by assumption),Aea,h,Aaw,LG hn]
  |_=>cases h
def LH(u:wD):Started (frz F D u):=by
 intro n o h;rw[AV]at h
 cases e:u.heap[n]? with
 |none=>rw[e]at h;simp at h
 |some x=>
  rw[e]at h;simp only[Aaw,oI]at h;subst h
  cases x<;>simp[shut,Obj.started]
def AX{a:aD}(h:u.cell? a=some v):∃c t z,u.heap[a.block]? =some (.cells c t z):=by grind [Aeq]
def LJ{P:pQ}{K:Kd}(s:P.globals.size<=u.heap.size):WR P F K (RK D u) ((frz F D u).tp u.tape u.drawn noJ) u:=by
 have r:((frz F D u).tp u.tape u.drawn noJ).heap.size=u.heap.size:=by rw[iw,EN]
 refine⟨λb m h=>?_,λb y A f h2=>f.1.symm.trans h2.1,λy A m f h2=>f.1.trans h2.1.symm,λb m o h p=>?_,λb m h _=>h.1,rfl,rfl,by rw[r];exact s,s⟩
 ·obtain⟨rfl,_,c,t,z,f⟩:=h
  grind
 obtain⟨rfl,_,c,t,z,f⟩:=h;rw[jC,AV,f]at p;simp only[Aaw,zk,oI]at p;subst p;refine⟨.cells c t z,f,.cells ⟨yW,λi v G e E=>?_⟩ (λx=>x.elim) (λ_=>yW)⟩;rw[Aea,E,Aaw,oI]at e
 grind [EM]
end
section
variable {P:pQ} {I:fI->Prop} {F:fI->Bool} {K:Kd} {Gl:Nat->Bool} {kt:List Item} {bb:Bool} {tl:List fR} {R:Rl}
theorem AY(w:wD)(τ:Nat->Ahp->Nat)(d:Nat)(n:Nat):(w.tp τ d noJ).heap[n]? =w.heap[n]? :=by grind [World.tp,uY]
theorem EP(p:∀S,NoEnter P S):∀(n:Nat) {g:gO} {w:wD} {J:gO} {w':wD},dZ P g w->(g.status=.running\/g.status=.blocked\/g.status=.finished)->Aez P n (oneG g w)=.next (oneG J w')->dZ P J w'
 |0,g,w,J,w',h,_,e=>by
  simp only[Aez,Stepped.next.injEq]at e;have Y:g=J:=by have:=congrArg (λm=>m.gs[0]?) e;simpa[oneG]using this
  have Z:w=w':=by have:=congrArg (λm=>m.world) e;simpa[oneG]using this
  grind
 |n+1,g,w,J,w',h,f,e=>by
  rcases f with f|f|f
  ·rcases h with h|h|⟨U,⟨c,hc⟩,W,s⟩
   ·grind
   ·obtain⟨g2,w2,Z,h2⟩:=DR (n+1) h e;have Y:J=g2:=by have:=congrArg (λm=>m.gs[0]?) Z;simpa[oneG]using this
    rw[Y];exact .inr (.inl h2)
   have hD:dZ P g w:=.inr (.inr ⟨U,⟨c,hc⟩,W,s⟩);have A:(∃O E M,stepG P true g w=.go O E M/\(O.status=.running\/O.status=.finished))\/∃o E M,stepG P true g w=.ended o E M:=by
    obtain⟨N,cs,st,dy,X⟩:=g;simp only at U hc s f;subst U f;obtain⟨h1,fn,h2⟩:=s N (List.mem_cons_self ..);have Q:N.catches P=false:=by unfold Frame.catches;rw[h2]
    have e:stepG P true {frame:=N,callers:=cs,status:=.running,dying:=none,offers:=X} w=unwind P true N cs none w:=by unfold stepG;dsimp only;simp only[hc]
    rw[e];unfold unwind
    cases ab:N.defers with
    |cons d ds=>
     obtain⟨r,rfl⟩:=h1 d (by grind);simp only
     cases aa:(Instr.takeDeferred r).runT P w #[]with
     |mk x es0=>
      simp only
      cases x with
      |halt y w2=>exact .inr ⟨_,_,_,rfl⟩
      |ok calls w2=>exact .inl ⟨_,_,_,rfl,.inl rfl⟩
    |nil=>
     rw[hc];dsimp only;rw[Q];simp only[Bool.false_eq_true,if_false]
     cases cs with
     |cons c0 rest=>exact .inl ⟨_,_,_,rfl,.inl rfl⟩
     |nil=>
      dsimp only
      split
      ·grind
      split<;>grind
   rcases A with⟨O,E,M,V,h5⟩|⟨o,E,M,V⟩
   ·have T:=KI p hD f V;have G:step P (oneG g w)=.next (oneG O E):=by
     grind [xC,DL]
    simp only[Aez,G]at e;exact EP p n T (h5.elim .inl λx=>.inr (.inr x)) e
   simp only[Aez,DK f V]at e
   cases e
  ·obtain⟨o,E,h5⟩:=DN (P:=P) (w:=w) f;simp only[Aez,h5]at e
   cases e
  obtain⟨o,E,h5⟩:=DT (P:=P) (w:=w) f;simp only[Aez,h5]at e
  cases e
def WR.tps{R:Rl}{w:wD}(h:WR P F K R w u)(τ:Nat->Ahp->Nat)(d:Nat):WR P F K R (w.tp τ d noJ) (u.tp τ d noJ):=
 ⟨λb e f=>by rw[iw,iw];exact h.dom b e f,h.fn,h.inj,λb e o f m=>by rw[AY]at m⊢; exact h.objs b e o f m,h.glob,rfl,rfl,by rw[iw];exact h.bigW,by rw[iw];exact h.bigU⟩
theorem AZ(G:Good P I)(W:FC P F Gl):∀(n:Nat) {R:Rl} {g gp:gO} {w u:wD} {U:gO} {w':wD},(∀x,Gl x=true->R.rel x x)->GoK P F Gl kt tl R g gp->jR g->Started w->WR P F (KC P F Gl) R w u->
 Aez P n (oneG g w)=.next (oneG U w')->¬dZ P U w'->zL P I n (oneG g w)
 |0,_,_,_,_,_,_,_,_,_,_,_,_,_,_=>λk hk=>by omega
 |n+1,R,g,gp,w,u,U,w',hGl,hg,hgo,hst,hw,hrun,hnd=>by
  have hL:oG P I g.frame:=Ap W hg.frame hGl;have ae:∀{f T:gO} {p Q:wD},oneG f p=oneG T Q->f=T/\p=Q:=λe=>⟨by have:=congrArg (λm=>m.gs[0]?) e;simpa[oneG]using this,by have:=congrArg (λm=>m.world) e;simpa[oneG]using this⟩;intro k hk T Q y
  cases k with
  |zero=>
   simp only[Aez,Stepped.next.injEq]at y
   grind
  |succ k=>
   obtain⟨O,st,X,_,A,_⟩:=DJ G (main:=true) hL hgo hg.alive hst;obtain⟨es,_,e⟩:=X w.tape w.drawn noJ dS (λj _=>rfl) (.inl rfl);rw[jP]at e
   cases st with
   |go f p es0=>
    simp only[GStep.tp,Ac8]at e;generalize aa:p.tp w.tape (w.drawn+O) noJ=S at e
    rcases A with⟨h1,h2,r|r,h4⟩|J
    ·have V:Started S:=by rw[<-aa];exact fC h4 _ _
     have E:=xC hg.run (.inl r) e;simp only[Aez,E]at hrun y;by_cases hD:dZ P f S
     ·exact absurd (EP G.noEnter n hD (.inl r) hrun) hnd
     obtain⟨R2,ad,u1,ac,l2,e1,Y,ab,_,_⟩:=KR G W hGl (mn:=true) hg hgo hw hst e hD;have N:=ab.tps S.tape S.drawn;rw[fB,jP]at N;exact AZ G W n (λx hx=>l2.rel _ _ (hGl x hx)) Y h1 V N hrun hnd k zP T Q y
    ·exfalso;simp only[Aez,DL hg.run r e]at hrun
     cases n with
     |zero=>grind
     |succ n=>
      obtain⟨o,w3,h6⟩:=DT (P:=P) (g:=f) (w:=S) r;simp only[Aez,h6]at hrun
      cases hrun
    exfalso;have M:f.status=.running\/f.status=.blocked:=J.1;simp only[Aez,xC hg.run M e]at hrun;exact hnd (EP G.noEnter n (.inr (.inl J)) (M.elim .inl λx=>.inr (.inl x)) hrun)
   |ended o p es0=>
    simp only[GStep.tp,Ac8]at e;simp only[Aez,DK hg.run e]at hrun
    cases hrun
   |comm f cases bl shape p es0=>
    exfalso;obtain⟨_,_,r,h4⟩:=A;subst r;have Z:∀s,step P (oneG g w)=s->s=(communicate P {timers:=#[],alone:=none,slice:=none} #[{(default:gO)with status:=.finished}] 0 f cases true shape (p.tp w.tape (w.drawn+O) noJ)).1:=by intro s Z;rw[<-Z,step,stepT,move_oneG hg.run];simp[runT,oneG,Ael,e,Ac8,GStep.tp]
    rcases Jw (P:=P) (g:=f) (cases:=cases) (shape:=shape) (fC h4 w.tape (w.drawn+O))with⟨o,Q,h5⟩|h5
    ·simp only[Aez]at hrun
     grind
    simp only[Aez]at hrun;rw[Z _ rfl,h5]at hrun;simp only at hrun
    cases n with
    |zero=>grind
    |succ n=>
     obtain⟨o,w3,h6⟩:=DN (P:=P) (g:={f with status:=.blocked,offers:=some (cases,shape)}) (w:=p.tp w.tape (w.drawn+O) noJ) rfl;simp only[Aez,h6]at hrun
     cases hrun
   |spawn f ch p es0=>
    exfalso;have h5:step P (oneG g w)=.next {world:=p.tp w.tape (w.drawn+O) noJ,gs:=#[f,ch],rest:={timers:=#[],alone:=none,slice:=none}}:=by rw[step,stepT,move_oneG hg.run];simp[runT,oneG,Ael,e,Ac8,GStep.tp]
    simp only[Aez,h5]at hrun;have:=Jy hrun;simp[oneG]at this
   |_=>exact A.elim
end
end Go.Tp
namespace Go.Tp
open Go.Conc Go.ConcN Go.RowKit
def LK{P:pQ}{m p e:Machine}{t r f:Trace}{N K:Nat}(h:runNT P N m t=(.next p,r))(s:runNT P K p r=(.next e,f)):runNT P (N+K) m t=(.next e,f):=by grind [runNT_add]
class Team (P:pQ) where
 I:fI->Prop
 F:fI->Bool
 Gl:Nat->Bool
 good:Good P I
 fc:FC P F Gl
abbrev tF(P:pQ)[Team P]:fI->Bool:=Team.F (P:=P)
abbrev tG(P:pQ)[Team P]:Nat->Bool:=Team.Gl (P:=P)
abbrev tK(P:pQ)[Team P]:Kd:=KC P (tF P) (tG P)
section
variable (P:pQ) [Team P]
structure Mod (S dead:Nat->Prop) (R:Rl) (w u:wD):Prop where
 wr:WR P (tF P) (tK P) R (w.tp u.tape u.drawn noJ) u
 own:∀b b',R.rel b b'->R.own b'\/S b'
 gl:∀x,tG P x=true->R.rel x x
 live:Live dead ⟨R.own,S⟩ u
 sep:∀b,S b->¬R.own b
structure Sm (S:Nat->Prop) (u u':wD):Prop where
 tape:u'.tape=u.tape
 os:u'.os=u.os
 output:u'.output=u.output
 keep:∀b,S b->u'.heap[b]? =u.heap[b]?
end
def Sm.refl(S:Nat->Prop)(u:wD):Sm S u u:=⟨rfl,rfl,rfl,λ_ _=>rfl⟩
theorem Sm.trans{S:Nat->Prop}{u u' e:wD}(h:Sm S u u')(k:Sm S u' e):Sm S u e:=⟨k.tape.trans h.tape,k.os.trans h.os,k.output.trans h.output,λb f=>(k.keep b f).trans (h.keep b f)⟩
section
variable {P:pQ} [Team P] {g:gO} {w:wD}
theorem Mod.tp{S dead:Nat->Prop}{R:Rl}{w u:wD}{τ:Nat->Ahp->Nat}{d:Nat}:Mod P S dead R (w.tp τ d noJ) u↔Mod P S dead R w u:=by
 constructor
 ·rintro⟨e,h2,f,h4,h5⟩;rw[fB]at e;exact⟨e,h2,f,h4,h5⟩
 rintro⟨e,h2,f,h4,h5⟩;exact⟨by rw[fB];exact e,h2,f,h4,h5⟩
def Mod.went{S dead:Nat->Prop}{R m:Rl}{w u u':wD}(h:Mod P S dead R w u)(f:lU ⟨R.own,S⟩ ⟨m.own,S⟩ u u'):Sm S u u'/\∀b,S b->¬m.own b:=by
 have hlt:∀b,S b->b<u.heap.size:=λb e=>(h.live.at_ b (.inr e)).1;refine⟨⟨f.same.1,f.same.2.1,f.same.2.2,λb e=>f.keep b (hlt b e) (h.sep b e)⟩,λb e p=>?_⟩
 rcases f.mine b p with h2|h2
 ·exact h.sep b e h2
 grind
omit [Team P] in
theorem rG(h1:g.status=.running)(h2:g.dying=none)(h3:g.frame.mode=.run\/g.frame.mode=.returning):¬dZ P g w:=by
 rintro(h|h|⟨_,⟨c,hc⟩,_⟩)
 ·exact h h1
 ·obtain⟨_,d,e,_⟩:=h
  grind
 grind
end
theorem aP(w:wD)(τ:Nat->Ahp->Nat)(d:Nat):(w.tp τ d noJ).heap=w.heap:=by grind [World.tp,uY]
end Go.Tp
namespace Go.Tp
open Go.Conc Go.RowKit
variable {v:vL} {u w u0:wD} {H0:Hold}
section
variable {P:pQ} {I:fI->Prop} {F:fI->Bool} {K:Kd} {Gl:Nat->Bool} {R:Rl}
def ES{k:IntKind}{n:Int}(h:VR F R (.int k n) v):v=.int k n:=by cases h;rfl
theorem ET{b:Bool}(h:VR F R (.bool b) v):v=.bool b:=by cases h;rfl
def EU{b o:Nat}{s:Option Nat}(h:VR F R (.pointer (some ⟨b,o,s⟩)) v):∃e,v=.pointer (some ⟨e,o,s⟩)/\R.rel b e:=by
 cases h with
 |pointer ha=>cases ha with|mk _ _ hr=>exact⟨_,rfl,hr⟩
inductive OAR (R:Rl):Option aD->Option aD->Prop
 |none:OAR R none none
 |some {a a':aD}:AR R a a'->OAR R (some a) (some a')
def uh{a:Option aD}{n c:Nat}(h:VR F R (.slice a n c) v):∃a',v=.slice a' n c/\OAR R a a':=by
 cases h with
 |nilSlice _ _=>exact⟨_,rfl,.none⟩
 |slice _ _ ha=>exact⟨_,rfl,.some ha⟩
def OAR.vr{a a':Option aD}(h:OAR R a a')(n c:Nat):VR F R (.slice a n c) (.slice a' n c):=by
 cases h with
 |none=>exact .nilSlice n c
 |some ha=>exact .slice n c ha
def oO(r:WR P F K R w u){b e o:Nat}(hr:R.rel b e)(h:w.cell? ⟨b,o,none⟩=some v):∃f,u.cell? ⟨e,o,none⟩=some f/\VR F R v f:=by
 obtain⟨x,s,m,h2,p⟩:=r.obj hr;unfold Aeq at h⊢;simp only[m,h2]at h⊢
 cases p with
 |cells hv _ _=>exact hv.hit (by grind)
 |number l ha=>cases h
 |owned _ ho=>cases ho<;>cases h
def XO(N:Good P I)(Z:FC P F Gl){tl:List fR}(J:∀x,Gl x=true->R.rel x x){f:fI}{fn:Func}{t:Tmp}(M:P.funcs[f]? =some fn)(A:fn.results=#[.tmp t]){args:Array vL}{g':gO}{S:vL->wD->Prop}(hS:∀v w p d,S v (w.tp p d noJ)->S v w)(y:jR {frame:=Ac9 P f args .normal,callers:=[],status:=.running,dying:=none})(hg:GoK P F Gl [] tl R {frame:=Ac9 P f args .normal,callers:=[],status:=.running,dying:=none} g')(E:Started w)(hw:WR P F (KC P F Gl) R (w.tp u.tape u.drawn noJ) u)(h:∀p,Calls P f args (w.tp p 0 noJ) λe w'=>∃v,e=.returned v/\S v w'):
 Run P (pO λg w'=>∃m,g=G m []/\m.fn=f/\m.mode=.returning/\m.defers=[]/\m.kind=.normal/\S (m.tmps.getD t ud) w') {frame:=Ac9 P f args .normal,callers:=[],status:=.running,dying:=none} w:=by
 refine DU N (λg w p d ⟨m,T,U,V,W,X,r⟩=>⟨m,T,U,V,W,X,hS _ _ _ _ r⟩) ⟨y,rfl,rfl,E⟩ λp=>?_;obtain⟨e,w',m,⟨v,rfl,r⟩,⟨n,hn⟩,s,hl⟩:=h p [];obtain⟨l1,l2,l3,Y,O,Q⟩:=hl;rw[s,M]at O;obtain rfl:=Agy O;rw[results_tmp A]at Q;obtain rfl:m.tmps.getD t ud=v:=by simpa using Q
 refine⟨n,_,hn,⟨_,w',rfl,rfl,rfl,m,rfl,s,l1,l2,l3,r⟩,AZ N Z n (u:=u.tp p 0 noJ) J hg y (fC E p 0) (by have:=hw.tps p 0;rwa [fB]at this) hn ?_⟩
 grind [rG]
structure Trk (H0:Hold) (u0:wD) (H:Hold) (u:wD):Prop where
 sh:H.sh=H0.sh
 size:u0.heap.size<=u.heap.size
 mine:∀b,b<u0.heap.size->H.mine b->H0.mine b
 keep:∀b,b<u0.heap.size->H0.sh b->¬H0.mine b->u.heap[b]? =u0.heap[b]?
 same:u.tape=u0.tape/\u.os=u0.os/\u.output=u0.output
def Trk.refl(H:Hold)(u:wD):Trk H u H u:=⟨rfl,nR _,λ_ _ h=>h,λ_ _ _ _=>rfl,rfl,rfl,rfl⟩
def Trk.off{H:Hold}{u':wD}(h:Trk H0 u0 H u)(e:Off H u u'):Trk H0 u0 H u':=
 ⟨h.sh,Agd h.size e.size,h.mine,λb f m p=>(e.keep b (nL f h.size) (.inr (by rw[h.sh];exact m))).trans (h.keep b f m p),e.same.1.trans h.same.1,e.same.2.1.trans h.same.2.1,e.same.2.2.trans h.same.2.2⟩
def Trk.does{H H':Hold}{u':wD}(h:Trk H0 u0 H u)(e:Does H H' u u'):Trk H0 u0 H' u':=
 ⟨e.sh.trans h.sh,Agd h.size e.size,λb f m=>(e.mine b m).elim (h.mine b f) λx=>absurd (nL f h.size) (Nat.not_lt.2 x.1),λb f p m=>(e.keep b (nL f h.size) λx=>m (h.mine b f x)).trans (h.keep b f p m),e.same.1.trans h.same.1,e.same.2.1.trans h.same.2.1,e.same.2.2.trans h.same.2.2⟩
def _root_.Go.Tp.aH.track{P:pQ}{mn:Bool}{Stop:Hold->gO->wD->Prop}{x:Hold×gO×wD}(h:aH P mn Stop x):Trk H0 u0 x.1 x.2.2->aH P mn (λH g u=>Stop H g u/\Trk H0 u0 H u) x:=by
 induction h with
 |stop f h2=>exact λm=>.stop f λu' e=>⟨h2 u' e,m.off e⟩
 |step next f _ p s=>intro m;refine .step next f (λu' e=>s u' e ?_) p;obtain⟨y,_,r,_⟩:=p u' e;exact(m.off e).does r
def EW(Gd:Good P I)(hF:FC P F Gl){mn:Bool}{Stop:Hold->gO->wD->Prop}{f:fI}{fn:Func}{t:Tmp}(s:P.funcs[f]? =some fn)(y:fn.results=#[.tmp t])(Y:F f=true){b:fR}{a:Act}{k:List Item}{cs:List fR}{ops:Array Oper}{i:Nat}{rest:List Nat}{o:Oper}{args:Array Operand}{ak:Array Ahu}(ho:ops[i]? =some o)(aw:Ag2 o (Ahs ops a.tmps)=true)(hk:b.kind≠.early)(af:o.op=.call {callee:=.value (.func f),args,argTypes:=ak}){S:Nat->Prop}(hS:∀b N,R.rel b N->R.own N\/S N)(Z:∀x,Gl x=true->R.rel x x)(ai:Started w)(av:WR P F (KC P F Gl) R (w.tp u.tape u.drawn noJ) u){la:Array vL}(O:VRs F R la (args.map a.eval)){Q:vL->wD->Prop}(hQ:∀v w τ d,Q v (w.tp τ d noJ)->Q v w)(hc:∀τ,Calls P f la (w.tp τ 0 noJ) λe w'=>∃v,e=.returned v/\Q v w')(kk:∀A v v' w1 u1,R.le A->(∀r r',A.ch r r'->R.ch r r')->VR F A v v'->Q v w1->Started w1->WR P F (KC P F Gl) A (w1.tp u1.tape u1.drawn noJ) u1->(∀b N,A.rel b N->A.own N\/S N)->Off ⟨λ_=>False,λb=>S b/\¬R.own b⟩ u u1->aH P mn Stop (⟨A.own,S⟩,G (b.at (a.put o.dst v') (.inRegion ops rest::k)) cs,u1)):
 aH P mn Stop (⟨R.own,S⟩,G (b.at a (.inRegion ops (i::rest)::k)) cs,u):=by
 obtain⟨ay,cb,e1,e2,e3,_,_⟩:=hF.body f Y;rw[s]at e1;obtain rfl:=Agy e1;have ab:fn.body.isNone=false:=by rw[e2];rfl
 have ae:jR {frame:=Ac9 P f la .normal,callers:=[],status:=.running,dying:=none}:=⟨zD Gd.bodies _ _ zE,λx hx=>by cases hx⟩;have hg:GoK P F Gl [] (b.at a (.inRegion ops (i::rest)::k)::cs) R {frame:=Ac9 P f la .normal,callers:=[],status:=.running,dying:=none} (G (Ac9 P f (args.map a.eval) .normal) (b.at a (.inRegion ops (i::rest)::k)::cs)):=
  ⟨KL hF Y O,.nil,rfl,rfl,rfl,rfl,.inl rfl,λx hx=>(by cases hx),.inl rfl,rfl,rfl⟩
 refine aH.step' rfl λu' J=>⟨(⟨R.own,S⟩,G (Ac9 P f (args.map a.eval) .normal) (b.at a (.inRegion ops (i::rest)::k)::cs),u'),?_,#[],?_,.still _ _,yW⟩
 ·have M:=av.off hS J;have ah:Run P (pO λg w'=>∃E,g=G E []/\E.fn=f/\E.mode=.returning/\E.defers=[]/\E.kind=.normal/\Q (E.tmps.getD t ud) w') {frame:=Ac9 P f la .normal,callers:=[],status:=.running,dying:=none} w:=by
   refine XO Gd hF Z s y hQ ae hg ai (u:=u') M hc
  refine((Ey Gd hF (mn:=mn) (λg w hs=>?_) ah R _ u' (.refl R) (λ_ _ h=>h) hg ae ai Z hS M).track ((Trk.refl ⟨R.own,S⟩ u).off J)).bind λH g u1 hs=>?_
  ·obtain⟨⟨E,rfl,_,hm,_⟩,hf⟩:=hs;exact rG rfl rfl (.inr hm)
  have V:g.status=.running:=by obtain⟨⟨_,_,_,_,_,_,U,_⟩,_⟩:=hs u1 (Off.refl _ _);exact U.run'
  refine aH.step' V λu2 au=>?_;obtain⟨⟨A,g1,w1,l1,al,⟨⟨E,rfl,ad,hm,hd,aq,hq⟩,T⟩,U,aj,rfl,am⟩,W⟩:=hs u2 au;obtain⟨m,ax,st,dy,az⟩:=g;obtain⟨p,X,_,ag,_,aa,_,_,_,_,_⟩:=U;simp only[G]at p X ag aa;subst ag aa
  cases X
  have ar:=p.mode.trans hm;have ap:=p.kind'.trans aq;have ao:P.funcs[m.fn]? =some fn:=by rw[p.fn,ad];exact s
  have an:m.defers=[]:=by
   have:=p.defers;rw[hd]at this;generalize m.defers=l at this
   cases this
   rfl
  have hv:=p.tmps.getD t;have ac:(b.at a (.inRegion ops (i::rest)::k)).finish (m.tmps.getD t ud)=b.at (a.put o.dst (m.tmps.getD t ud)) (.inRegion ops rest::k):=by rw[Ag0,ho];rfl
  refine⟨(⟨A.own,S⟩,_,u2),kk A _ _ w1 u2 l1 al hv hq T.started aj am ⟨W.size,λb hb hx=>hx.elim (λx=>x.elim) λx=>W.keep b hb x.1 x.2,W.same⟩,#[],?_,.still _ _,yW⟩;rw[<-ac];have e1:=results_tmp y m.tmps P u2;have e2:=events_results_tmp y m.tmps (P:=P) (w:=u2) #[];simp[stepG,unwind,doReturn,ar,an,ap,ao,e1,e2,seen_none,Ac8,G,Ahr]
 show stepG P mn _ u'=_
 rw[stepG_enter ho aw hk (run_call_body af s e3 ab)];have:Aht P b.fn a o u'=#[]:=by unfold Aht;rw[events_call_body af s e3 ab];exact seen_none P _
 rw[this]
end
end Go.Tp
namespace Go.Meter
structure Zn where
 far:Int
 day:Int
 night:Int
 least:Int
structure Ln where
 name:ByteArray
 digits:Int
 s0:Int
 s1:Int
structure Cl where
 line:Int
 far:Int
 a0:Int
 a1:Int
 c0:Int
 c1:Int
 made:Int
structure Pt where
 line:Int
 at_:Int
 shows:ByteArray
structure Bk where
 day:Int
 D:Int
 U:Int
 Z:List Zn
 L:List Ln
 C:List Cl
 P:List Pt
structure Sp where
 made:Bool
 ans:Int
 clr:Int
structure Past where
 start:Int
 c:Nat->Sp
def Past.set(p:Past)(i:Nat)(s:Sp):Past:=⟨p.start,λj=>if j=i then s else p.c j⟩
def bg(a b:Int):List Int:=(Aes (b+1-a).toNat).map λi=>a+(i:Nat)
def times(c:Cl):List (Int×Int):=(bg c.a0 c.a1).flatMap λt=>(bg (max t c.c0) c.c1).map λu=>(t,u)
def moreL(k:Int):List Cl->Nat->Past->List Past
 |[],_,p=>[p]
 |c::cs,i,p=>(if c.line≠k\/c.made=0 then moreL k cs (i+1) p else[])++(if c.line≠k then[]else(times c).flatMap λx=>moreL k cs (i+1) (p.set i ⟨true,x.1,x.2⟩))
def Bk.lineAt(B:Bk)(k:Int):Ln:=(B.L[k.toNat]?).getD ⟨⟨#[]⟩,0,0,0⟩
def Bk.callAt(B:Bk)(i:Nat):Cl:=(B.C[i]?).getD ⟨0,0,0,0,0,0,0⟩
def Bk.pasts(B:Bk)(k:Int):List Past:=(bg (B.lineAt k).s0 (B.lineAt k).s1).flatMap λs=>moreL k B.C 0 ⟨s,λ_=>⟨false,0,0⟩⟩
def Bk.sec(B:Bk)(z:Zn)(s:Int):Int:=if B.D<=s % B.day/\s % B.day<=B.U-1 then z.day else z.night
def Bk.secs(B:Bk)(z:Zn)(f t:Int):Int:=((bg f (t-1)).map (B.sec z)).sum
def Bk.zoneIx(B:Bk)(far:Int):Option Nat:=B.Z.findIdx? λz=>decide (far<=z.far)
def Bk.zoneOf(B:Bk)(far:Int):Zn:=(B.Z.find? λz=>decide (far<=z.far)).getD ⟨0,0,0,0⟩
def Bk.price(B:Bk)(far a e:Int):Int:=if a=e then 0 else max (B.zoneOf far).least (B.secs (B.zoneOf far) a e)
def Bk.counted(B:Bk)(far:Int)(x:Sp)(t:Int):Int:=if x.made=false\/t<=x.ans then 0 else if x.clr<=t then B.price far x.ans x.clr else B.secs (B.zoneOf far) x.ans t
def Bk.count(B:Bk)(p:Past)(t:Int):Int:=((Aes 3).map λi=>B.counted (B.callAt i).far (p.c i) t).sum
def numbers(d:Int):Int:=10^d.toNat
def Bk.shows(B:Bk)(k:Int)(p:Past)(t:Int):Int:=(p.start+B.count p t) % numbers (B.lineAt k).digits
def seen(s:ByteArray)(n:Int):Bool:=(Aes s.size).all λi=>s.get! (s.size-1-i)==63||decide (n / 10^i % 10=((s.get! (s.size-1-i)).toNat:Int)-48)
def Bk.photoAt(B:Bk)(i:Nat):Pt:=(B.P[i]?).getD ⟨0,0,⟨#[]⟩⟩
def Bk.right(B:Bk)(k:Int)(p:Past)(ps:List Nat):Bool:=ps.all λi=>decide ((B.photoAt i).line≠k)||seen (B.photoAt i).shows (B.shows k p (B.photoAt i).at_)
def Bk.hist(B:Bk)(k:Int)(ps:List Nat):List Past:=(B.pasts k).filter λp=>B.right k p ps
end Go.Meter
namespace Go.Proofs.Y
open Go.RowKit Go.Tp Go.Meter
variable {v:vL} {F:fI->Bool} {R:Rl} {w w':wD} {a a':Option aD}
structure BkV where
 za:Option aD
 la:Option aD
 ca:Option aD
 pa:Option aD
 zc:Nat
 lc:Nat
 cc:Nat
 pc:Nat
abbrev BkV.row(V:BkV)(B:Bk):Array vL:=#[.int qi B.day,.int qi B.D,.int qi B.U,.slice V.za B.Z.length V.zc,.slice V.la B.L.length V.lc,.slice V.ca B.C.length V.cc,.slice V.pa B.P.length V.pc]
abbrev BkV.val(V:BkV)(B:Bk):vL:=.agg (V.row B)
structure aI (w:wD) (V:BkV) (B:Bk):Prop where
 Z:∀(i:Nat) (z:Zn),B.Z[i]? =some z->∃b o,V.za=some ⟨b,o,none⟩/\w.cell? ⟨b,o+i*4,none⟩=some (.int qi z.far)/\w.cell? ⟨b,o+i*4+1,none⟩=some (.int qi z.day)/\w.cell? ⟨b,o+i*4+2,none⟩=some (.int qi z.night)/\w.cell? ⟨b,o+i*4+3,none⟩=some (.int qi z.least)
 L:∀(i:Nat) (z:Ln),B.L[i]? =some z->∃b o,V.la=some ⟨b,o,none⟩/\w.cell? ⟨b,o+i*4,none⟩=some (.string z.name)/\w.cell? ⟨b,o+i*4+1,none⟩=some (.int qi z.digits)/\w.cell? ⟨b,o+i*4+2,none⟩=some (.int qi z.s0)/\w.cell? ⟨b,o+i*4+3,none⟩=some (.int qi z.s1)
 C:∀(i:Nat) (z:Cl),B.C[i]? =some z->∃b o,V.ca=some ⟨b,o,none⟩/\w.cell? ⟨b,o+i*7,none⟩=some (.int qi z.line)/\w.cell? ⟨b,o+i*7+1,none⟩=some (.int qi z.far)/\w.cell? ⟨b,o+i*7+2,none⟩=some (.int qi z.a0)/\w.cell? ⟨b,o+i*7+3,none⟩=some (.int qi z.a1)/\
  w.cell? ⟨b,o+i*7+4,none⟩=some (.int qi z.c0)/\w.cell? ⟨b,o+i*7+5,none⟩=some (.int qi z.c1)/\w.cell? ⟨b,o+i*7+6,none⟩=some (.int qi z.made)
 P:∀(i:Nat) (z:Pt),B.P[i]? =some z->∃b o,V.pa=some ⟨b,o,none⟩/\w.cell? ⟨b,o+i*3,none⟩=some (.int qi z.line)/\w.cell? ⟨b,o+i*3+1,none⟩=some (.int qi z.at_)/\w.cell? ⟨b,o+i*3+2,none⟩=some (.string z.shows)
def aF(w:wD)(a:Option aD)(l:List Int):Prop:=∀(i:Nat) (n:Int),l[i]? =some n->∃b o,a=some ⟨b,o,none⟩/\w.cell? ⟨b,o+i,none⟩=some (.int qi n)
def aJ(w:wD)(a:Option aD):Prop:=∀x,a=some x->∃c t z,w.heap[x.block]? =some (.cells c t z)
inductive Imm:vL->Prop
 |int (n:Int):Imm (.int qi n)
 |bool (b:Bool):Imm (.bool b)
 |string (s:ByteArray):Imm (.string s)
def Imm.vr{v':vL}(h:Imm v)(x:VR F R v v'):v'=v:=by cases h<;>cases x<;>rfl
def Imm.self(h:Imm v):VR F R v v:=by
 cases h
 ·exact .int _ _
 ·exact .bool _
 exact .string _
def Imm.neat{K:Nat->Prop}(h:Imm v):mZ F K v:=by cases h<;>trivial
def aI.map{w w':wD}{V:BkV}{B:Bk}(h:aI w V B)(e:∀b o v,Imm v->w.cell? ⟨b,o,none⟩=some v->w'.cell? ⟨b,o,none⟩=some v):aI w' V B:=by
 obtain⟨m,h2,p,h4⟩:=h;refine⟨λi z f=>?_,λi z f=>?_,λi z f=>?_,λi z f=>?_⟩
 ·obtain⟨b,o,x,y1,y2,y3,y4⟩:=m i z f;exact⟨b,o,x,e _ _ _ (.int _) y1,e _ _ _ (.int _) y2,e _ _ _ (.int _) y3,e _ _ _ (.int _) y4⟩
 ·obtain⟨b,o,x,y1,y2,y3,y4⟩:=h2 i z f;exact⟨b,o,x,e _ _ _ (.string _) y1,e _ _ _ (.int _) y2,e _ _ _ (.int _) y3,e _ _ _ (.int _) y4⟩
 ·obtain⟨b,o,x,y1,y2,y3,y4,y5,y6,r⟩:=p i z f;exact⟨b,o,x,e _ _ _ (.int _) y1,e _ _ _ (.int _) y2,e _ _ _ (.int _) y3,e _ _ _ (.int _) y4,e _ _ _ (.int _) y5,e _ _ _ (.int _) y6,e _ _ _ (.int _) r⟩
 obtain⟨b,o,x,y1,y2,y3⟩:=h4 i z f;exact⟨b,o,x,e _ _ _ (.int _) y1,e _ _ _ (.int _) y2,e _ _ _ (.string _) y3⟩
def aF.map{w w':wD}{a:Option aD}{l:List Int}(h:aF w a l)(e:∀b o v,Imm v->w.cell? ⟨b,o,none⟩=some v->w'.cell? ⟨b,o,none⟩=some v):aF w' a l:=λi n f=>by obtain⟨b,o,x,y⟩:=h i n f;exact⟨b,o,x,e _ _ _ (.int _) y⟩
structure BkV.Ren (R:Rl) (V V':BkV):Prop where
 za:OAR R V.za V'.za
 la:OAR R V.la V'.la
 ca:OAR R V.ca V'.ca
 pa:OAR R V.pa V'.pa
 zc:V'.zc=V.zc
 lc:V'.lc=V.lc
 cc:V'.cc=V.cc
 pc:V'.pc=V.pc
def OAR.some_inv{b o:Nat}{s:Option Nat}(h:OAR R (some ⟨b,o,s⟩) a'):∃e,a'=some ⟨e,o,s⟩/\R.rel b e:=by
 cases h with
 |some ha=>cases ha with|mk _ _ hr=>exact⟨_,rfl,hr⟩
section
variable {P:pQ} {F:fI->Bool} {K:Kd} {R:Rl} {w u:wD}
def iy(p:WR P F K R w u){b e o:Nat}(hr:R.rel b e)(m:Imm v)(h:w.cell? ⟨b,o,none⟩=some v):u.cell? ⟨e,o,none⟩=some v:=by obtain⟨r,f,h2⟩:=oO p hr h;rw[f,m.vr h2]
def aI.wr(m:WR P F K R w u){V y:BkV}{B:Bk}(s:V.Ren R y)(h:aI w V B):aI u y B:=by
 obtain⟨A,h2,E,h4⟩:=h;refine⟨λi z r=>?_,λi z r=>?_,λi z r=>?_,λi z r=>?_⟩
 ·obtain⟨b,o,x,y1,y2,y3,y4⟩:=A i z r;obtain⟨p,e,f⟩:=OAR.some_inv (x▸s.za);exact⟨p,o,e,iy m f (.int _) y1,iy m f (.int _) y2,iy m f (.int _) y3,iy m f (.int _) y4⟩
 ·obtain⟨b,o,x,y1,y2,y3,y4⟩:=h2 i z r;obtain⟨p,e,f⟩:=OAR.some_inv (x▸s.la);exact⟨p,o,e,iy m f (.string _) y1,iy m f (.int _) y2,iy m f (.int _) y3,iy m f (.int _) y4⟩
 ·obtain⟨b,o,x,y1,y2,y3,y4,y5,y6,G⟩:=E i z r;obtain⟨p,e,f⟩:=OAR.some_inv (x▸s.ca);exact⟨p,o,e,iy m f (.int _) y1,iy m f (.int _) y2,iy m f (.int _) y3,iy m f (.int _) y4,iy m f (.int _) y5,iy m f (.int _) y6,iy m f (.int _) G⟩
 obtain⟨b,o,x,y1,y2,y3⟩:=h4 i z r;obtain⟨p,e,f⟩:=OAR.some_inv (x▸s.pa);exact⟨p,o,e,iy m f (.int _) y1,iy m f (.int _) y2,iy m f (.string _) y3⟩
def aF.wr(s:WR P F K R w u){l:List Int}(m:OAR R a a')(h:aF w a l):aF u a' l:=λi n p=>by obtain⟨b,o,x,y⟩:=h i n p;obtain⟨f,e,r⟩:=OAR.some_inv (x▸m);exact⟨f,o,e,iy s r (.int _) y⟩
def aJ.wr(A:WR P F K R w u)(f:OAR R a a')(h:aJ w a):aJ u a':=λx hx=>by
 cases f with
 |none=>cases hx
 |some f=>
  cases f with
  |mk o s hr=>
   obtain⟨c,t,z,e⟩:=h _ rfl;obtain⟨y,E,m,p,r⟩:=A.obj hr;rw[e]at m
   cases m
   cases hx
   cases r with
   |cells _ _ _=>exact⟨_,_,_,p⟩
   |owned _ ho=>cases ho
end
def vT(s:Sp):List vL:=[.bool s.made,.int qi s.ans,.int qi s.clr]
def bC(p:Past):List vL:=.int qi p.start::(vT (p.c 0)++vT (p.c 1)++vT (p.c 2))
def gQ(l:List Past):List vL:=l.flatMap bC
def eu(w:wD)(m:Nat->Prop)(l:List Past)(v:vL):Prop:=
 (l=[]/\v=.slice none 0 0)\/(l≠[]/\∃f e c,v=.slice (some ⟨f,0,none⟩) l.length e/\m f/\w.heap[f]? =some (.cells c 132 (0,0))/\c.size=e*10/\l.length<=e/\(∀(i:Nat) (x:vL),(gQ l)[i]? =some x->c[i]? =some x)/\∀x∈c,Imm x)
def eu.keep{e:Nat->Prop}{l:List Past}(h:eu w e l v)(s:∀b,e b->b<w.heap.size->w'.heap[b]? =w.heap[b]?):eu w' e l v:=by
 rcases h with h|⟨r,p,f,c,h2,m,h4,h5⟩
 ·exact .inl h
 exact .inr ⟨r,p,f,c,h2,m,by rw[s p m (aS.1 h4).1];exact h4,h5⟩
def A8(x a b:Int)(w:wD):Calls Tryz.prog 114 #[.int qi x,.int qi a,.int qi b] w λe w'=>e=.returned (.bool (decide (a<=x/\x<=b)))/\w=w':=by
 by_cases h:a<=x
 ·go_enter func114,ntmps114;go_wp2;go_ret;refine⟨?_,rfl⟩
  first
  |rfl
  |(show Ag1 (Ahl _)=Ag1 (Ahl _);simp[h];done)
  |(show Ag1 (Ahl _)=Ag1 (Ahl _);simp;omega)
 go_enter func114,ntmps114;go_wp2;go_ret;refine⟨?_,rfl⟩
 first
 |rfl
 |(show Ag1 (Ahl _)=Ag1 (Ahl _);simp;done)
 |(show Ag1 (Ahl _)=Ag1 (Ahl _);simp;omega)
def LM:∀k:Nat,k<=9->(10 :Int)^k<=1000000000:=zE
def LP(k:Nat):0<(10 :Int)^k:=Int.pow_pos zE
def LQ(d:Nat)(y:d<=9)(w:wD):Calls Tryz.prog 140 #[.int qi (d:Int)] w λe w'=>e=.returned (.int qi (numbers d))/\w=w':=by
 go_enter func140,ntmps140;go_wp2
 go_loopw [3,5] (λp i wr=>w=wr/\∃k:Nat,k<=d/\i=.int qi (k:Int)/\p=.int qi ((10 :Int)^k)) (λ_ i _=>d-(intOf i).toNat)
 case atStart=>exact⟨rfl,0,zP,rfl,rfl⟩
 case round=>
  obtain⟨rfl,k,A,rfl,rfl⟩:=hrel;have x:=LM k zP;have h2:=LP k;have m:(10 :Int)^(k+1)=10^k*10:=Int.pow_succ ..;generalize r:(10 :Int)^k=p at*;have s:=Lib.hid r;have f:=Lib.hid m;clear r m;by_cases hlt:k<d
  ·go_wp2;go_roundw
   case rel=>exact⟨trivial,k+1,zP,by go_num,by first|rw[f.out];done|(rw[f.out];go_num)⟩
   case measure=>simp[intOf];omega
  go_wp2;go_ret;have e:k=d:=zP
  subst e;refine⟨?_,rfl⟩
  show Ag1 (Value.int _ p)=_
  rw[<-s.out];rfl
end Go.Proofs.Y
