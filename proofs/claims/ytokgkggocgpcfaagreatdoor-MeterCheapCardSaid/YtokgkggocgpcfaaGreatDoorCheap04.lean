/- Part of a proof; no conditions. -/
import Derived.Test.YtokgkggocgpcfaaGreatDoorCheap03
import Derived.Conc.CrowdTrace
import Derived.Conc.CrowdStepW
import Derived.Conc.CrowdSit
open Array renaming getElem?_eq_some_iff->aS,getElem?_setIfInBounds_self_of_lt->Ad0,getElem?_setIfInBounds_ne->Ad2,mem_of_getElem?->Af3,getElem?_map->Aea,getElem?_eq_getElem->aG
open Go.ConcR renaming ofEvent_loc_mark->Af0,DC0->Agi,mk->Agj
open Option renaming map_eq_some_iff->Ht,map_some->Aaw
open List renaming getElem?_set_self->Af1,mem_toArray->Af7,not_mem_nil->Aav,mem_cons->Ab3
open Go.Conc renaming getElem?_append_cases->Af2,mem_ofEvents->Af4,lt_size_of_getElem?->Af5,woken->Agb,aside_setCell->Agc,woken_quitsD->Agh,touchAt_of->Agk,Deaf_own->Agm
open Nat renaming le_refl->nR,eq_zero_or_pos->Af6,le_trans->Agd,le_of_eq->Agf,add_zero->Agg,lt_of_lt_of_le->nL
open Go.MemAct renaming ofEvent->Af8,touch?->Aga
open Go.MemOp renaming ofEvents->Af9
open Go.Conc.Goes renaming cases->Agl
open Go renaming FuncId->fI,Goroutine->gO,Program->pQ,World->wD,mayWake->Agn,Trace->Agp
open Go.ConcN.RW renaming refl->Ago
open Option.some renaming injEq->oI
set_option maxRecDepth 100000
set_option maxHeartbeats 4000000
set_option linter.all false
namespace Go.Tp
open Go.Conc
variable {mn:Bool} {P:pQ} {u u':wD} {g:gO} {S:Nat->Prop}
structure Hold where
 mine:Nat->Prop
 sh:Nat->Prop
variable {Stop:Hold->gO->wD->Prop} {H:Hold}
structure Off (H:Hold) (u u':wD):Prop where
 size:u.heap.size<=u'.heap.size
 keep:∀b,b<u.heap.size->H.mine b\/H.sh b->u'.heap[b]? =u.heap[b]?
 same:u'.tape=u.tape/\u'.os=u.os/\u'.output=u.output
def Off.refl(H:Hold)(u:wD):Off H u u:=⟨nR _,λ_ _ _=>rfl,rfl,rfl,rfl⟩
theorem Off.trans{e:wD}(h:Off H u u')(a:Off H u' e):Off H u e:=
 ⟨Agd h.size a.size,λb r s=>(a.keep b (nL r h.size) s).trans (h.keep b r s),a.same.1.trans h.same.1,a.same.2.1.trans h.same.2.1,a.same.2.2.trans h.same.2.2⟩
theorem Off.at(H:Hold)(u:wD)(d:Nat):Off H u {u with drawn:=d}:=⟨nR _,λ_ _ _=>rfl,rfl,rfl,rfl⟩
structure Does (H H':Hold) (u u':wD):Prop where
 size:u.heap.size<=u'.heap.size
 keep:∀b,b<u.heap.size->¬H.mine b->u'.heap[b]? =u.heap[b]?
 mine:∀b,H'.mine b->H.mine b\/(u.heap.size<=b/\b<u'.heap.size)
 more:∀b,H.mine b->H'.mine b
 sh:H'.sh=H.sh
 same:u'.tape=u.tape/\u'.os=u.os/\u'.output=u.output
inductive EvO (H:Hold):Event->Prop
 |read {a:Addr}:H.mine a.block\/H.sh a.block->EvO H ⟨.cell a,false,false⟩
 |write {a:Addr}:H.mine a.block->EvO H ⟨.cell a,true,false⟩
 |obj {r:Nat}:H.mine r\/H.sh r->EvO H ⟨.obj r,false,false⟩
 |objw {r:Nat}:H.mine r->EvO H ⟨.obj r,true,false⟩
 |noRoom (x y:Bool):EvO H ⟨.mark .noRoom,x,y⟩
def Ar(P:pQ)(mn:Bool)(H:Hold)(g:gO)(u:wD)(x:Hold×gO×wD):Prop:=
 ∃es,stepG P mn g u=.go x.2.1 x.2.2 es/\Does H x.1 u x.2.2/\∀e∈es,EvO x.1 e
inductive aH (P:pQ) (mn:Bool) (Stop:Hold->gO->wD->Prop):Hold×gO×wD->Prop
 |stop {H g u: _}:g.status=.running->(∀u',Off H u u'->Stop H g u')->aH P mn Stop (H,g,u)
 |step {H g u: _} (next:wD->Hold×gO×wD):g.status=.running->(∀u',Off H u u'->aH P mn Stop (next u'))->(∀u',Off H u u'->Ar P mn H g u' (next u'))->aH P mn Stop (H,g,u)
def aH.step'(r:g.status=.running)(h:∀u',Off H u u'->∃x,aH P mn Stop x/\Ar P mn H g u' x):aH P mn Stop (H,g,u):=by
 classical
 have e:∀u',∃x,Off H u u'->aH P mn Stop x/\Ar P mn H g u' x:=λu'=>by
  by_cases a:Off H u u'
  ·grind
  exact⟨(H,g,u),λh=>absurd h a⟩
 exact .step (λu'=>Classical.choose (e u')) r (λu' a=>(Classical.choose_spec (e u') a).1) (λu' a=>(Classical.choose_spec (e u') a).2)
theorem aH.running{x:Hold×gO×wD}(h:aH P mn Stop x):x.2.1.status=.running:=by
 cases h with
 |stop h _=>exact h
 |step _ h _ _=>exact h
theorem aH.mono{a:Hold->gO->wD->Prop}{x:Hold×gO×wD}(h:aH P mn Stop x)(s:∀H g u,Stop H g u->a H g u):aH P mn a x:=by
 induction h with
 |stop e h2=>exact .stop e λu' v=>s _ _ _ (h2 u' v)
 |step next e _ r w=>exact .step next e w r
def aH.bind{a:Hold->gO->wD->Prop}{x:Hold×gO×wD}(h:aH P mn Stop x)(s:∀H g u,(∀u',Off H u u'->Stop H g u')->aH P mn a (H,g,u)):aH P mn a x:=by
 induction h with
 |stop _ h2=>exact s _ _ _ h2
 |step next e _ r v=>exact .step next e v r
def aH.rely(h:aH P mn Stop (H,g,u))(s:Off H u u'):aH P mn Stop (H,g,u'):=by
 cases h with
 |stop r h2=>exact .stop r λe a=>h2 e (s.trans a)
 |step next r h2 v=>exact .step next r (λe a=>h2 e (s.trans a)) (λe a=>v e (s.trans a))
section
variable {P:pQ} {I:fI->Prop} {F:fI->Bool} {K:Kd} {Gl:Nat->Bool} {kt:List Item} {tl:List Frame}
def WR.off{R:Rl}{w:wD}(r:WR P F K R (w.tp u.tape u.drawn noJ) u)(A:∀b a,R.rel b a->R.own a\/S a)(s:Off ⟨R.own,S⟩ u u'):WR P F K R (w.tp u'.tape u'.drawn noJ) u':=by have e:∀n:Nat,(w.tp u'.tape u'.drawn noJ).heap[n]? =(w.tp u.tape u.drawn noJ).heap[n]? :=λn=>rfl;refine⟨λb a h=>⟨by have:=(r.dom b a h).1;simpa[iw]using this,nL (r.dom b a h).2 s.size⟩,r.fn,r.inj,λb a o h v=>?_,r.glob,rfl,rfl,by have:=r.bigW;simpa[iw]using this,Agd r.bigU s.size⟩;rw[e]at v;obtain⟨C,y,h2⟩:=r.objs b a o h v;exact⟨C,by rw[s.keep a (r.dom b a h).2 (A b a h)];exact y,h2⟩
theorem Au{R:Rl}(s:∀b r,R.rel b r->R.own r\/S r){e:Event}(h:EvR R e):EvO ⟨R.own,S⟩ e:=by
 cases h with
 | @cell b a wr hr hw=>
  cases wr with
  |false=>exact .read (s _ _ hr)
  |true=>exact .write (hw rfl)
 |obj hr=>exact .obj (s _ _ hr)
 |objw _ ho=>exact .objw ho
 |noRoom x y=>exact .noRoom x y
def StopR(P:pQ)(F:fI->Bool)(Gl:Nat->Bool)(kt:List Item)(tl:List Frame)(R0:Rl)(S:Nat->Prop)(Stop:gO->wD->Prop)(H:Hold)(g':gO)(u':wD):Prop:=
 ∃R g w,R0.le R/\(∀r e,R.ch r e->R0.ch r e)/\Stop g w/\GoK P F Gl kt tl R g g'/\WR P F (KC P F Gl) R (w.tp u'.tape u'.drawn noJ) u'/\H=⟨R.own,S⟩/\∀b a,R.rel b a->R.own a\/S a
def Ey(G:Good P I)(hF:FC P F Gl){Stop:gO->wD->Prop}(hS:∀g w,Stop g w->¬dZ P g w){R0:Rl}{w:wD}(h:Run P Stop g w):
 ∀(R:Rl) (g':gO) (u:wD),R0.le R->(∀r r',R.ch r r'->R0.ch r r')->GoK P F Gl kt tl R g g'->jR g->Started w->(∀x,Gl x=true->R.rel x x)->(∀b s,R.rel b s->R.own s\/S s)->WR P F (KC P F Gl) R (w.tp u.tape u.drawn noJ) u->
  aH P mn (StopR P F Gl kt tl R0 S Stop) (⟨R.own,S⟩,g',u):=by
 induction h with
 | @stop g w X=>intro R g' u L E J _ _ _ v hw;exact .stop J.run' λu' ho=>⟨R,g,w,L,E,X,J,hw.off v ho,rfl,v⟩
 | @step g w next ae hr hE ih=>
  intro R g' u L E J Q ac C v hw;refine aH.step' J.run' λu' ho=>?_;have ad:=hw.off v ho;obtain⟨es,_,X⟩:=(hE u'.tape u'.drawn).step noJ dS;have T:¬dZ P (next u'.tape u'.drawn).2.1 ((next u'.tape u'.drawn).2.2.tp u'.tape (u'.drawn+(next u'.tape u'.drawn).1) noJ):=λh=>WL G.noEnter hS (hr _ _) (KF h);have A:Started (w.tp u'.tape u'.drawn noJ):=fC ac _ _;obtain⟨V,N,u1,Y,l2,e1,ab,M,a,aa⟩:=KR G hF C (mn:=mn) J Q ad A X T;have y:=(WM G (Ap (I:=I) hF J.frame C) Q J.alive A X).resolve_right T;have O:∀b s,V.rel b s->V.own s\/S s:=λb s W=>by
   rcases a.new b s W with Z|Z
   ·rcases v b s Z with x|x
    ·exact .inl (l2.own _ x)
    exact .inr x
   exact .inl ((a.own s).2 (.inr ⟨Z,(M.dom b s W).2⟩))
  rw[fB]at M;have U:Started (next u'.tape u'.drawn).2.2:=by
   have:=fC y.2.2 (next u'.tape u'.drawn).2.2.tape (next u'.tape u'.drawn).2.2.drawn
   grind [fB,jP]
  refine⟨(⟨V.own,S⟩,N,u1),ih _ _ V N u1 (L.trans l2) (λr r' h=>E _ _ (a.ch _ _ h)) ab y.1 U (λx hx=>l2.rel _ _ (C x hx)) O M,Y,e1,⟨a.size,λb W hm=>a.keep b W hm,λb=>(a.own b).1,λb h=>(a.own b).2 (.inl h),rfl,a.same⟩,λe he=>Au O (aa e he)⟩
end
end Go.Tp
namespace Go.Tp
open Go.Conc Go.ConcN
variable {i k j x d c B m:Nat} {H H':Hold} {es:Array Event} {u' u:wD} {g' g:gO} {fn:fI} {dead p:Nat->Prop} {st sm:Int} {ops:Trace}
section
variable {P:pQ}
def bW(dead:Nat->Prop):Loc->Prop
 |.cell a=>dead a.block
 |_=>False
structure Live (dead:Nat->Prop) (H:Hold) (u:wD):Prop where
 at_:∀b,H.mine b\/H.sh b->b<u.heap.size/\¬dead b
 dead:∀b,dead b->b<u.heap.size
def Live.does(h:Live dead H u)(e:Does H H' u u'):Live dead H' u':=by
 refine⟨λb a=>?_,λb a=>nL (h.dead b a) e.size⟩;rw[e.sh]at a
 rcases a.imp (e.mine b) id with(a|a)|a
 ·exact⟨nL (h.at_ b (.inl a)).1 e.size,(h.at_ b (.inl a)).2⟩
 ·exact⟨a.2,λhx=>by have:=h.dead b hx;omega⟩
 exact⟨nL (h.at_ b (.inr a)).1 e.size,(h.at_ b (.inr a)).2⟩
def Live.off(h:Live dead H u)(e:Off H u u'):Live dead H u':=
 ⟨λb a=>⟨nL (h.at_ b a).1 e.size,(h.at_ b a).2⟩,λb a=>nL (h.dead b a) e.size⟩
def Xb(v:Live dead H u){e:Event}(h:EvO H e):EvL (bW dead) u.heap.size e:=by
 cases h with
 | @read a hm=>refine⟨λx hx s=>?_,yW,yW,(v.at_ _ hm).1⟩;simp only[Af8,Aga,oI]at hx;subst hx;exact absurd s (v.at_ _ hm).2
 | @write a hm=>refine⟨λx hx s=>?_,yW,yW,(v.at_ _ (.inl hm)).1⟩;simp only[Af8,Aga,oI]at hx;subst hx;exact absurd s (v.at_ _ (.inl hm)).2
 | @obj r hm=>refine⟨λx hx s=>?_,yW,yW,(v.at_ _ hm).1⟩;simp only[Af8,Aga,oI]at hx;subst hx;exact s.elim
 | @objw r hm=>refine⟨λx hx s=>?_,yW,yW,(v.at_ _ (.inl hm)).1⟩;simp only[Af8,Aga,oI]at hx;subst hx;exact s.elim
 |noRoom x y=>exact⟨λx hx=>by simp[Af8,Aga]at hx,yW,yW,trivial⟩
structure lU (H H':Hold) (u u':wD):Prop where
 size:u.heap.size<=u'.heap.size
 keep:∀b,b<u.heap.size->¬H.mine b->u'.heap[b]? =u.heap[b]?
 mine:∀b,H'.mine b->H.mine b\/(u.heap.size<=b/\b<u'.heap.size)
 more:∀b,H.mine b->H'.mine b
 sh:H'.sh=H.sh
 same:u'.tape=u.tape/\u'.os=u.os/\u'.output=u.output
def lU.refl(H:Hold)(u:wD):lU H H u u:=⟨nR _,λ_ _ _=>rfl,λ_ h=>.inl h,λ_ h=>h,rfl,rfl,rfl,rfl⟩
def lU.ahead{e:Hold}{r:wD}(h:Does H H' u u')(k:lU H' e u' r):lU H e u r:=by
 refine⟨Agd h.size k.size,λb a s=>?_,λb a=>?_,λb a=>k.more b (h.more b a),k.sh.trans h.sh,k.same.1.trans h.same.1,k.same.2.1.trans h.same.2.1,k.same.2.2.trans h.same.2.2⟩
 ·rw[k.keep b (nL a h.size) λhx=>(h.mine b hx).elim s λx=>zP,h.keep b a s]
 have:=h.size;have:=k.size
 rcases k.mine b a with hx|hx
 ·rcases h.mine b hx with hx|hx
  ·exact .inl hx
  grind
 grind
def lU.after_at(h:lU H H' (u.at d) u'):lU H H' u u':=⟨h.size,h.keep,h.mine,h.more,h.sh,h.same⟩
def Aw(H:Hold):Loc->Prop
 |.cell a=>H.mine a.block\/H.sh a.block
 |.obj r=>H.mine r\/H.sh r
 |_=>False
theorem Aw.mono(a:∀b,H.mine b->H'.mine b)(e:H'.sh=H.sh):∀{l:Loc},Aw H l->Aw H' l
 |.cell _,h=>h.imp (a _) λx=>by rw[e];exact x
 |.obj _,h=>h.imp (a _) λx=>by rw[e];exact x
 |.output,h=>h.elim
 |.goroutines,h=>h.elim
 |.mark _,h=>h.elim
def OpH(H:Hold)(e:MemOp):Prop:=(∀x,e.act.touch?=some x->x.loc.isMemory=true->Aw H x.loc)/\∀a,e.act≠.mark (.release a)
def Xc{pos:String}(h:∀e∈es,EvO H e):∀v∈Af9 i fn pos es,OpH H v:=by
 intro v s;obtain⟨e,w,rfl⟩:=Af4 s;have:=h e w
 cases this with
 | @read a hm=>exact⟨λx hx _=>by simp only[Af8,Aga,oI]at hx;subst hx;exact hm,λa=>by simp[Af8]⟩
 | @write a hm=>exact⟨λx hx _=>by simp only[Af8,Aga,oI]at hx;subst hx;exact .inl hm,λa=>by simp[Af8]⟩
 | @obj r hm=>exact⟨λx hx _=>by simp only[Af8,Aga,oI]at hx;subst hx;exact hm,λa=>by simp[Af8]⟩
 | @objw r hm=>exact⟨λx hx _=>by simp only[Af8,Aga,oI]at hx;subst hx;exact .inl hm,λa=>by simp[Af8]⟩
 |noRoom x y=>exact⟨λx hx=>by simp[Af8,Aga]at hx,λa=>by simp[Af8]⟩
def KT{pos:String}(h:∀e∈es,e.mute=true):∀v∈Af9 i fn pos es,OpH H v:=by
 intro v s;obtain⟨e,w,rfl⟩:=Af4 s
 rcases Go.ConcR.bk_of_mute (Wg:=0) (h e w)with r|r|⟨a,wr,rfl,_⟩
 ·exact⟨λx hx=>(by simp only[Af0 r]at hx;cases hx),λa=>by simp[Af0 r]⟩
 ·exact⟨λx hx=>(by simp only[Af0 r]at hx;cases hx),λa=>by simp[Af0 r]⟩
 grind [Event.mute]
def vO(H:Hold)(t e:Agp):Prop:=∃u:Agp,e=t++u/\∀a∈u,OpH H a
def vO.ahead{t s:Agp}(h:vO H' (t++ops) s)(r:∀e∈ops,OpH H e)(w:∀b,H.mine b->H'.mine b)(y:H'.sh=H.sh):vO H' t s:=by
 obtain⟨u,rfl,A⟩:=h;refine⟨ops++u,by rw[Array.append_assoc],λe a=>?_⟩
 rcases Array.mem_append.1 a with a|a
 ·exact⟨λx hx v=>((r e a).1 x hx v).mono w y,(r e a).2⟩
 grind
def Xd{Stop:Hold->gO->wD->Prop}{x:Hold×gO×wD}(h:aH P true Stop x):
 ∀(u:wD) (gs:Array gO) (sl:Option (Nat×Nat)) (t:Agp) (q:Nat->Nat),Off x.1 x.2.2 u->Live dead x.1 u->gs[0]? =some x.2.1->Leavers P t gs q->Past (bW dead) u.heap.size t->
  ∃(N:Nat) (a:Array gO) (H':Hold) (g':gO) (u':wD) (C:Option (Nat×Nat)) (Y:Agp) (q':Nat->Nat),
   runNT P N (crowd gs u sl) t=(.next (crowd a u' C),Y)/\a.size=gs.size/\a[0]? =some g'/\g'.status=.running/\Stop H' g' u'/\Live dead H' u'/\lU x.1 H' u u'/\Leavers P Y a q'/\Past (bW dead) u'.heap.size Y/\vO H' t Y:=by
 induction h with
 | @stop H g u0 r hs=>exact λu gs sl t q ho hl W X hP=>⟨0,gs,H,g,u,sl,t,q,rfl,rfl,W,r,hs u ho,hl,.refl _ _,X,hP,#[],yW,yW⟩
 | @step H g u0 next r hr hE ih=>
  intro u gs sl t q ho hl W X hP;generalize hM:sumTo gs.size q=M
  induction M using Nat.strongRecOn generalizing u gs sl t q with
  |_ M ihM=>
  simp only at ho hl W;have au:∀g∈gs,awake g:=by
   intro x hx;obtain⟨i,T,rfl⟩:=Array.mem_iff_getElem.1 hx
   rcases Af6 i with rfl|L
   ·have:gs[0]=g:=by simpa[aG T]using W
    rw[this];exact awake_of (.inl r)
   exact awake_of ((X.old i _ L (aG T)).status.elim .inl λx=>.inr (.inr x))
  obtain⟨i,G,E,C,T,hg,aq⟩:=crowd_pick (P:=P) (w:=u) (sl:=sl) au ⟨0,g,W,r⟩;have ah:Off H u0 (u.at E):=ho.trans (Off.at H u E)
  rcases Af6 i with rfl|L
  ·obtain rfl:G=g:=by rw[W]at T;exact(Option.some.inj T).symm
   obtain⟨es,ae,J,R⟩:=hE (u.at E) ah;have am:=ih (u.at E) ah;generalize next (u.at E)=nx at ae J R am;obtain⟨H1,a',w'⟩:=nx;simp only at ae J R am;have ao:Live dead H1 w':=(hl.off (Off.at H u E)).does J;have v:=runT_crowd_go (P:=P) (sl:=C) (i:=0) T (show stepG P (0==0) G (u.at E)=.go a' w' es from ae);have V:((gs.map (woken P G a' w')).setIfInBounds 0 a').size=gs.size:=yW
   have hlt:0<gs.size:=(aS.1 W).1;obtain⟨N,a,H',Z,an,O,Y,q',aj,al,aa,ak,hS,af,A,ab,ac,ad⟩:=am w' ((gs.map (woken P G a' w')).setIfInBounds 0 a') C (t++Af9 0 G.frame.fn G.frame.place es) q (Off.refl _ _) ao (by simp[hlt])
    ⟨λm x Q hx=>by
     have ag:0≠m:=zP
     rw[Ad2 ag,Aea]at hx;obtain⟨y,hy,rfl⟩:=Ht.1 hx;have hq:=X.old m y Q hy;rw[Agh hq,Deaf_other t zP _ (λop s=>fV s)];exact hq,λm Q=>by
     rw[Deaf_other t (g':=0) (by grind) _ (λop s=>fV s)];exact X.above m (by grind)⟩
    ((hP.mono J.size).own λe he=>Xb ao (R e he))
   exact⟨N+1,a,H',Z,an,O,Y,q',by simp only[runNT,aq,v];exact aj,al.trans V,aa,ak,hS,af,(lU.ahead J A).after_at,ab,ac,ad.ahead (Xc R) A.more A.sh⟩
  have hq:=X.old i G L T;have av:(i==0)=false:=by simp;omega
  have hlt:i<gs.size:=(aS.1 T).1
  cases ai:q i with
  |zero=>rw[ai]at hq;rw[hq.1]at hg;cases hg
  |succ k=>
   rw[ai]at hq
   rcases hq with⟨hf,_⟩|⟨_,g',es,Q,ar,ax⟩
   ·rw[hf]at hg;cases hg
   have v:=runT_crowd_go (P:=P) (sl:=C) (i:=i) T (by rw[av];exact ar (u.at E));have V:((gs.map (woken P G g' (u.at E))).setIfInBounds i g').size=gs.size:=yW
   have aw:sumTo gs.size (upd q i k)+(k+1)=sumTo gs.size q+k:=by have:=sumTo_upd q k id hlt;simpa[ai]using this
   obtain⟨N,a,H',Z,an,O,Y,q',aj,al,aa,ak,hS,af,A,ab,ac,ad⟩:=ihM (sumTo gs.size (upd q i k)) zP (u.at E) ((gs.map (woken P G g' (u.at E))).setIfInBounds i g') C (t++Af9 i G.frame.fn G.frame.place es) (upd q i k) ah (hl.off (Off.at H u E))
    (by
     have ag:i≠0:=zP
     rw[Ad2 ag,Aea,W];simp[woken_run r])
    ⟨λm x Q hx=>by
     by_cases U:i=m
     ·subst U;rw[Ad0 (by simpa using hlt)]at hx;obtain rfl:=Option.some.inj hx
      grind [upd_same,Agm]
     ·rw[Ad2 U,Aea]at hx;obtain⟨y,hy,rfl⟩:=Ht.1 hx;have ap:=X.old m y Q hy;rw[Agh ap,upd_ne q k (Ne.symm U),Deaf_other t U _ (λop s=>fV s)];exact ap,λm Q=>by
     rw[Deaf_other t (g':=i) (by simp at Q;omega) _ (λop s=>fV s)];exact X.above m (by simpa using Q)⟩
    (hP.mute zP Q) (by rw[V])
   exact⟨N+1,a,H',Z,an,O,Y,q',by simp only[runNT,aq,v];exact aj,al.trans V,aa,ak,hS,af,A.after_at,ab,ac,ad.ahead (KT (H:=H) Q) A.more A.sh⟩
def xR{Stop:Hold->gO->wD->Prop}{x:Hold×gO×wD}(h:aH P true Stop x):
 ∀(u:wD) (gs:Array gO) (w:Option (Nat×Nat)) (t:Agp) (q:Nat->Nat),Off x.1 x.2.2 u->Live dead x.1 u->gs[0]? =some x.2.1->Leavers P t gs q->Past (bW dead) u.heap.size t->
  ∃(N:Nat) (r:Array gO) (H':Hold) (g':gO) (u':wD) (s:Option (Nat×Nat)) (v:Agp) (y:Nat->Nat),
   runNT P N (crowd gs u w) t=(.next (crowd r u' s),v)/\r.size=gs.size/\r[0]? =some g'/\g'.status=.running/\Stop H' g' u'/\Live dead H' u'/\lU x.1 H' u u'/\Leavers P v r y/\Past (bW dead) u'.heap.size v:=by
 intro u gs w t q a b c d e;obtain⟨N,r,H',g',u',s,v,y,A,h2,C,h4,h5,h6,E,G,J,_⟩:=Xd h u gs w t q a b c d e
 grind
end
section
open Go.ConcR (stA smA rd wr mk)
def InL(p:Nat->Prop):Loc->Prop
 |.cell a=>p a.block
 |.obj r=>p r
 |_=>False
theorem InL.mono{q:Nat->Prop}(h:∀b,p b->q b):∀{l:Loc},InL p l->InL q l
 |.cell _,x=>h _ x
 |.obj _,x=>h _ x
 |.output,x=>x.elim
 |.goroutines,x=>x.elim
 |.mark _,x=>x.elim
def InL.no{q:Nat->Prop}(h:∀b,p b->q b->False):∀{l:Loc},InL p l->InL q l->False
 |.cell _,x,y=>h _ x y
 |.obj _,x,y=>h _ x y
 |.output,x,_=>x
 |.goroutines,x,_=>x
 |.mark _,x,_=>x
def InL.mem:∀{l:Loc},InL p l->l.isMemory=true
 |.cell _,_=>rfl
 |.obj _,_=>rfl
 |.output,x=>x.elim
 |.goroutines,x=>x.elim
 |.mark _,x=>x.elim
structure Fam where
 n0:Nat
 C:Nat
 Wg:Nat
 dead:Nat->Prop
 pos:0<n0
 CW:C≠Wg
 dC:¬dead C
 dW:¬dead Wg
def Ac(act:Nat->Prop)(x:Nat):Prop:=x=0\/act x
def Fam.Own(f:Fam)(H:Hold)(x:Nat)(l:Loc):Prop:=InL H.mine l\/(f.n0<=x/\l=.cell ⟨f.C,x-f.n0,none⟩)
theorem Fam.Own.mem{f:Fam}{l:Loc}(h:f.Own H x l):l.isMemory=true:=by
 rcases h with h|⟨_,rfl⟩
 ·exact h.mem
 rfl
structure fZ (f:Fam) (p:Nat->Prop) (H:Nat->Hold):Prop where
 mm:∀x y b,p x->p y->x≠y->(H x).mine b->¬(H y).mine b
 ms:∀x y b,p x->p y->(H x).mine b->¬(H y).sh b
 no:∀x b,p x->(H x).mine b\/(H x).sh b->b≠f.C/\b≠f.Wg/\¬f.dead b
def Pr(act rl:Nat->Prop)(x:Nat):Prop:=x=0\/act x\/rl x
structure TrW (f:Fam) (B:Nat) (t:Agp) (act rl:Nat->Prop) (H:Nat->Hold):Prop where
 clean:∀said,¬Race said t
 quiet:Quiet (ShN f.Wg) t
 seen:∀op∈t,op.act.low B
 all:∀i a,touchAt t i=some a->a.loc.isMemory=true->(bW f.dead a.loc/\a.kind=.atomic)\/ShN f.Wg a.loc\/
  ∃x,((Ac act x/\Knows t x i)\/(rl x/\∃r,RelBy (stA f.Wg) t x r/\Before t i r))/\(x≠0->f.Own (H x) x a.loc\/(InL (H x).sh a.loc/\a.write=false))
 own:∀c,act c->∀i a,touchAt t i=some a->f.Own (H c) c a.loc->Knows t c i
 wr:∀c,act c->∀i a,touchAt t i=some a->InL (H c).sh a.loc->a.write=true->Knows t c i
 over:∀i g,t.g? i=some g->g≠0->t.counts i->(∃j,t.g? j=some 0/\HappensBefore t i j)\/act g\/rl g
 norel:NoRelease (stA f.Wg) t
 rel:∀k,rl k->∃r,RelBy (stA f.Wg) t k r
 ne0:∀c,act c\/rl c->f.n0<=c
 apart:∀c,rl c->¬act c
section
variable {f:Fam} {B:Nat} {t u:Trace} {act rl:Nat->Prop} {H:Nat->Hold}
theorem TrW.pos(h:TrW f B t act rl H)(hc:act c\/rl c):c≠0:=by have:=h.ne0 c hc;have:=f.pos;omega
theorem KU(a:fZ f (Pr act rl) H){y:Nat}(hx:Pr act rl x)(s:Pr act rl y)(r:x≠y){l:Loc}(h1:f.Own (H x) x l)(h2:f.Own (H y) y l):False:=by
 rcases h1 with h1|⟨a1,rfl⟩
 ·rcases h2 with h2|⟨v,rfl⟩
  ·exact InL.no (λb p q=>a.mm x y b hx s r p q) h1 h2
  exact(a.no x f.C hx (.inl h1)).1 rfl
 rcases h2 with h2|⟨v,e⟩
 ·exact(a.no y f.C s (.inl h2)).1 rfl
 grind
theorem Az(a:fZ f (Pr act rl) H){y:Nat}(hx:Pr act rl x)(e:Pr act rl y){l:Loc}(h1:f.Own (H x) x l)(h2:InL (H y).sh l):False:=by
 rcases h1 with h1|⟨a1,rfl⟩
 ·exact InL.no (λb p q=>a.ms x y b hx e p q) h1 h2
 exact(a.no y f.C e (.inr h2)).1 rfl
theorem AA(s:fZ f (Pr act rl) H)(hx:Pr act rl x){l:Loc}(h1:f.Own (H x) x l)(h2:ShN f.Wg l):False:=by
 obtain⟨a,rfl,r⟩:=h2
 rcases h1 with h1|⟨a1,e⟩
 ·exact(s.no x a.block hx (.inl h1)).2.1 r
 simp only[Loc.cell.injEq]at e;subst e;exact f.CW r
theorem AB(e:fZ f (Pr act rl) H)(hx:Pr act rl x){l:Loc}(h1:InL (H x).sh l)(h2:ShN f.Wg l):False:=by obtain⟨a,rfl,r⟩:=h2;exact(e.no x a.block hx (.inr h1)).2.1 r
theorem Xe(e:fZ f (Pr act rl) H)(hx:Pr act rl x){l:Loc}(h1:f.Own (H x) x l)(h2:bW f.dead l):False:=by
 rcases h1 with h1|⟨a1,rfl⟩
 ·cases l with
  |cell a=>exact(e.no x a.block hx (.inl h1)).2.2 h2
  |_=>exact h2.elim
 exact f.dC h2
theorem Xf(e:fZ f (Pr act rl) H)(hx:Pr act rl x){l:Loc}(h1:InL (H x).sh l)(h2:bW f.dead l):False:=by
 cases l with
 |cell a=>exact(e.no x a.block hx (.inr h1)).2.2 h2
 |_=>exact h2.elim
def OpW(f:Fam)(B:Nat)(H:Hold)(x:Nat)(a:MemOp):Prop:=
 a.act.low B/\∀b,a.act.touch?=some b->b.loc.isMemory=true->f.Own H x b.loc\/(InL H.sh b.loc/\b.write=false)\/(ShN f.Wg b.loc/\b.kind≠.plain/\(b.kind=.said->x=0))
def g_new(w:∀a∈u,a.g=x){g:Nat}(e:(t++u).g? i=some g)(s:t.size<=i):g=x:=by
 obtain⟨a,v,r⟩:=Ht.1 e
 grind
theorem TrW.app(h:TrW f B t act rl H)(hA:fZ f (Pr act rl) H)(hx:Ac act x)(U:∀v∈u,v.g=x)(M:∀v∈u,OpW f B (H x) x v)(ab:∀v∈u,v.act≠.mark (.release (stA f.Wg))):TrW f B (t++u) act rl H:=by
 have ae:Pr act rl x:=hx.elim .inl λq=>.inr (.inl q);have R:∀k,rl k->x≠k:=λk w e=>by
  subst e
  rcases hx with h0|hx
  ·exact h.pos (.inr w) h0
  exact h.apart _ w hx
 have J:∀{i:Nat} {a:Touch},touchAt (t++u) i=some a->(touchAt t i=some a)\/∃v∈u,v.act.touch?=some a/\Knows (t++u) x i:=by
  intro i a A;obtain⟨z,hz,hza⟩:=touch_of A
  rcases Af2 hz with⟨_,af⟩|⟨_,ag⟩
  ·grind [Agk]
  grind [knows_own]
 refine⟨λT=>?_,h.quiet.app λv s b X hs=>?_,seen_app h.seen λv s=>(M v s).1,λi a A hm=>?_,λc hc i a A L=>?_,λc hc i a A L hw=>?_,λi g Y aa hc=>?_,h.norel.app ab,λk w=>?_,h.ne0,h.apart⟩
 ·refine noRace_append (h.clean T) U λi a A v s b X hc=>?_;have hc0:=hc;obtain⟨L,E,hw,_⟩:=hc;have O:b.loc.isMemory=true:=L▸E
  rcases(M v s).2 b X O with h2|⟨h2,V⟩|⟨h2,h3,h4⟩
  ·rcases hx with rfl|Q
   ·rcases h.all i a A E with⟨N,_⟩|N|⟨y,w,Z⟩
    ·grind [Xe]
    ·grind [AA]
    have ad:Pr act rl y:=w.elim (λq=>q.1.elim .inl λz=>.inr (.inl z)) λq=>.inr (.inr q.1)
    grind [KU,Az]
   exact h.own x Q i a A (L▸h2)
  ·have W:a.write=true:=hw.resolve_right (by simp[V])
   rcases hx with rfl|Q
   ·rcases h.all i a A E with⟨N,_⟩|N|⟨y,w,Z⟩
    ·grind [Xf]
    ·grind [AB]
    have ad:Pr act rl y:=w.elim (λq=>q.1.elim .inl λz=>.inr (.inl z)) λq=>.inr (.inr q.1)
    grind [Az]
   exact h.wr x Q i a A (L▸h2) W
  exact h.quiet.known h2 h3 h4 i a A hc0
 ·have O:b.loc.isMemory=true:=by obtain⟨a,e,_⟩:=hs;rw[e];rfl
  rcases(M v s).2 b X O with h2|⟨h2,_⟩|⟨_,h3,h4⟩
  ·grind [AA]
  ·grind [AB]
  grind
 ·rcases J A with C|⟨v,s,G,w⟩
  ·rcases h.all i a C hm with q|q|⟨y,w,Z⟩
   ·exact .inl q
   ·grind
   refine .inr (.inr ⟨y,w.imp (λq=>⟨q.1,q.2.app u⟩) λ⟨q,r,N,q2⟩=>⟨q,r,N.appOther U (R y q),q2.app u⟩,Z⟩)
  rcases(M v s).2 a G hm with h2|h2|⟨h2,_⟩<;>grind
 ·rcases J A with C|⟨v,s,G,w⟩
  ·exact(h.own c hc i a C L).app u
  by_cases e:x=c
  ·grind
  exfalso;have ac:Pr act rl c:=.inr (.inl hc)
  rcases(M v s).2 a G L.mem with h2|⟨h2,_⟩|⟨h2,_⟩
  ·grind [KU]
  ·grind [Az]
  grind [AA]
 ·rcases J A with C|⟨v,s,G,w⟩
  ·exact(h.wr c hc i a C L hw).app u
  by_cases e:x=c
  ·grind
  exfalso;have ac:Pr act rl c:=.inr (.inl hc)
  rcases(M v s).2 a G L.mem with h2|⟨_,h2⟩|⟨h2,_⟩
  ·grind [Az]
  ·grind
  grind [AB]
 ·by_cases hlt:i<t.size
  ·rw[counts_old hlt]at hc;rw[g?_old hlt]at Y
   rcases h.over i g Y aa hc with⟨j,N,q2⟩|q
   ·exact .inl ⟨j,by rw[g?_old (by obtain⟨v,M,_⟩:=Ht.1 N;exact Af5 M)];exact N,hb_app u q2⟩
   exact .inr q
  have:=g_new U Y zP
  grind [hx.resolve_left]
 obtain⟨r,hr⟩:=h.rel k w;exact⟨r,hr.appOther U (R k w)⟩
end
end
section
open Go.ConcR (stA smA rd wr Bk bk_of_mute ofEvent_loc_mark)
section
variable {f:Fam} {B:Nat} {t u:Trace} {act rl:Nat->Prop} {H:Nat->Hold}
def Ez(h:∀v∈t,v.act.low B){a:Touch}(y:touchAt t i=some a):a.loc.low B:=by
 obtain⟨v,w,r⟩:=touch_of y;have s:=h v (mem_of_getElem? w)
 cases e:v.act with
 |access ev=>rw[e]at s r;simp only[Aga,oI]at r;subst r;exact s
 |mark m=>
  rw[e]at s r
  cases m<;>simp only[Aga]at r<;>first|(cases r;done)|(simp only[oI]at r;subst r;exact s)
 |_=>rw[e]at r;cases r
theorem InL.low:∀{l:Loc},l.low B->∀{p:Nat->Prop},InL p l->InL (λb=>p b/\b<B) l
 |.cell _,h,_,x=>⟨x,h⟩
 |.obj _,h,_,x=>⟨x,h⟩
 |.output,_,_,x=>x.elim
 |.goroutines,_,_,x=>x.elim
 |.mark _,_,_,x=>x.elim
def TrW.grow(h:TrW f B t act rl H){J:Nat}(L:B<=J){H':Nat->Hold}(Q:∀x b,(H x).mine b->(H' x).mine b)(w:∀x b,b<B->(H' x).mine b->(H x).mine b)(R:∀x b,(H x).sh b->(H' x).sh b)(E:∀x b,b<B->(H' x).sh b->(H x).sh b):TrW f J t act rl H':=by
 have M:∀x l,f.Own (H x) x l->f.Own (H' x) x l:=λx l A=>A.imp (InL.mono (Q x)) λq=>q;have v:∀x l,l.low B->f.Own (H' x) x l->f.Own (H x) x l:=λx l s A=>A.imp (λq=>(InL.low s q).mono λb r=>w x b r.2 r.1) λq=>q;refine⟨h.clean,h.quiet,λU C=>MemAct.low_mono L (h.seen U C),λi a e hm0=>?_,λc hc i a e s=>h.own c hc i a e (v c _ (Ez h.seen e) s),λc hc i a e s T=>h.wr c hc i a e ((InL.low (Ez h.seen e) s).mono λb r=>E c b r.2 r.1) T,h.over,h.norel,h.rel,h.ne0,h.apart⟩
 rcases h.all i a e hm0 with q|q|⟨x,O,N⟩
 ·exact .inl q
 ·grind
 exact .inr (.inr ⟨x,O,λG=>(N G).imp (M x _) λy=>⟨y.1.mono (R x),y.2⟩⟩)
theorem KW(hn:∀r∈u,r.act.touch?=none)(s:t.size<=i):¬(t++u).counts i:=by
 rintro⟨a,e,_⟩;obtain⟨z,v,hza⟩:=touch_of e
 grind
def xU{a:Addr}{r:Nat}(h:RelBy a t k r)(hn:∀s∈u,s.act.touch?=none):RelBy a (t++u) k r:=h.app λ_ e _=>KW hn e
def pY(hn:∀w∈u,w.act.touch?=none){a:Touch}(e:touchAt (t++u) i=some a):touchAt t i=some a:=by
 obtain⟨z,r,hza⟩:=touch_of e
 rcases Af2 r with⟨_,s⟩|⟨_,v⟩
 ·grind [Agk]
 grind
def Xg(h:∀r,¬Race r t)(hn:∀L∈u,L.act.touch?=none):∀r,¬Race r (t++u):=by rintro r ⟨i,j,s,⟨a,b,A,C,hc⟩,G,J⟩;obtain⟨x,hx,v⟩:=touch_of (pY hn A);obtain⟨y,E,w⟩:=touch_of (pY hn C);exact h r ⟨i,j,s,⟨a,b,by simp[Trace.act?,hx,v],by simp[Trace.act?,E,w],hc⟩,λe=>G (hb_app u e),λe=>J (hb_app u e)⟩
def KX(h:∀i g,t.g? i=some g->g≠0->t.counts i->(∃j,t.g? j=some 0/\HappensBefore t i j)\/act g\/rl g){g:Nat}(hlt:i<t.size)(e:(t++u).g? i=some g)(a:g≠0)(hc:(t++u).counts i):(∃j,(t++u).g? j=some 0/\HappensBefore (t++u) i j)\/act g\/rl g:=by
 rw[counts_old hlt]at hc;rw[g?_old hlt]at e
 rcases h i g e a hc with⟨j,r,v⟩|q
 ·exact .inl ⟨j,by rw[g?_old (by obtain⟨w,s,_⟩:=Ht.1 r;exact Af5 s)];exact r,hb_app u v⟩
 exact .inr q
theorem TrW.mute(h:TrW f B t act rl H)(hn:∀s∈u,s.act.touch?=none)(J:∀s∈u,s.act.low B)(C:∀s∈u,s.act≠.mark (.release (stA f.Wg))):TrW f B (t++u) act rl H:=by
 refine⟨Xg h.clean hn,h.quiet.app λs M b T=>(by grind),seen_app h.seen J,λi a v L=>?_,λc hc i a v e=>(h.own c hc i a (pY hn v) e).app u,λc hc i a v e O=>(h.wr c hc i a (pY hn v) e O).app u,λi g E A hc=>?_,h.norel.app C,λk w=>?_,h.ne0,h.apart⟩
 ·rcases h.all i a (pY hn v) L with q|q|⟨y,w,G⟩
  ·exact .inl q
  ·grind
  exact .inr (.inr ⟨y,w.imp (λq=>⟨q.1,q.2.app u⟩) λ⟨q,r,Q,R⟩=>⟨q,r,xU Q hn,R.app u⟩,G⟩)
 ·by_cases hlt:i<t.size
  ·exact KX h.over hlt E A hc
  grind [KW]
 obtain⟨r,N⟩:=h.rel k w;exact⟨r,xU N hn⟩
theorem TrW.book(h:TrW f B t act rl H)(X:fZ f (Pr act rl) H)(hk:rl k)(O:Deaf t k=d)(fn:fI)(pos:String)(E:∀e∈es,Bk f.Wg e)(hd:∀j e,es[j]? =some e->(Af8 e).touch?=none\/0<deafBehind d (es.extract 0 j))(hB:f.Wg<B):TrW f B (t++Af9 k fn pos es) act rl H:=by
 have V:∀G∈Af9 k fn pos es,G.g=k:=by grind [fV]
 have hq:∀G∈Af9 k fn pos es,∀x,G.act.touch?=some x->ShN f.Wg x.loc/\x.kind=.atomic:=λG s x hx=>by
  obtain⟨e,Q,rfl⟩:=Af4 s
  rcases E e Q with J|J|⟨a,w,rfl,v⟩
  ·simp only[ofEvent_loc_mark J]at hx;cases hx
  ·simp only[ofEvent_loc_mark J]at hx;cases hx
  cases w<;>(simp[Af8,Aga]at hx;subst hx;exact⟨⟨a,rfl,v⟩,rfl⟩)
 have C:∀{i:Nat} {a:Touch},touchAt (t++Af9 k fn pos es) i=some a->touchAt t i=some a\/ShN f.Wg a.loc:=by
  intro i a v;obtain⟨z,hz,hza⟩:=touch_of v
  rcases Af2 hz with⟨_,aa⟩|⟨_,ab⟩
  ·grind [Agk]
  grind
 have hrel:∀c r,rl c->RelBy (stA f.Wg) t c r->RelBy (stA f.Wg) (t++Af9 k fn pos es) c r:=λc r hc U=>by
  by_cases e:c=k
  ·subst e;exact U.book O fn pos E hd
  exact U.appOther V (Ne.symm e)
 refine⟨λM=>?_,h.quiet.app λG s b Y _=>?_,seen_app h.seen λG s=>?_,λi a v hm=>?_,λc hc i a v L=>?_,λc hc i a v L hw=>?_,λi g Z T hc=>?_,h.norel.app (norel_of_Bk E|>norel_of),λc hc=>?_,h.ne0,h.apart⟩
 ·refine noRace_append (h.clean M) V λi a v G s b Y hc=>?_;obtain⟨W,q2⟩:=hq G s b Y;exact h.quiet.known W (by grind) (by grind) i a v hc
 ·grind
 ·obtain⟨e,Q,rfl⟩:=Af4 s
  rcases E e Q with J|J|⟨a,w,rfl,v⟩
  ·simp only[ofEvent_loc_mark J];trivial
  ·simp only[ofEvent_loc_mark J];trivial
  show a.block<B
  grind
 ·rcases C v with A|N
  ·rcases h.all i a A hm with q|q|⟨y,R,hh⟩
   ·exact .inl q
   ·grind
   exact .inr (.inr ⟨y,R.imp (λq=>⟨q.1,q.2.app _⟩) λ⟨q,r,W,q2⟩=>⟨q,r,hrel y r q W,q2.app _⟩,hh⟩)
  grind
 ·rcases C v with A|N
  ·exact(h.own c hc i a A L).app _
  exact(AA X (.inr (.inl hc)) L N).elim
 ·rcases C v with A|N
  ·exact(h.wr c hc i a A L hw).app _
  exact(AB X (.inr (.inl hc)) L N).elim
 ·by_cases hlt:i<t.size
  ·exact KX h.over hlt Z T hc
  have:=g_new V Z zP
  grind
 obtain⟨r,U⟩:=h.rel c hc
 grind
def TrW.release(h:TrW f B t act rl H)(hc:act c)(U:Deaf t c=0)(fn:fI)(pos:String)(R:f.Wg<B):
 TrW f B (t++Af9 c fn pos #[Agj (.releaseMerge (stA f.Wg))]) (λx=>act x/\x≠c) (λx=>rl x\/x=c) H:=by
 have Z:∀v∈Af9 c fn pos #[Agj (.releaseMerge (stA f.Wg))],v.g=c:=by grind [fV]
 have w:∀v∈Af9 c fn pos #[Agj (.releaseMerge (stA f.Wg))],v.act=.mark (.releaseMerge (stA f.Wg)):=λv s=>by obtain⟨e,O,rfl⟩:=Af4 s;simp only[Af7,Ab3,Aav,or_false]at O;subst O;rfl
 have hn:∀v∈Af9 c fn pos #[Agj (.releaseMerge (stA f.Wg))],v.act.touch?=none:=λv s=>by rw[w v s];rfl
 have C:=h.mute hn (λv s=>by rw[w v s];exact R) (λv s=>by rw[w v s];simp);have E:RelBy (stA f.Wg) (t++Af9 c fn pos #[Agj (.releaseMerge (stA f.Wg))]) c t.size:=RelBy.new U fn pos;obtain⟨y,Q,N⟩:∃y,(t++Af9 c fn pos #[Agj (.releaseMerge (stA f.Wg))])[t.size]? =some y/\y.g=c:=by
  obtain⟨y,Q,e⟩:=Ht.1 E.g
  grind
 refine⟨C.clean,C.quiet,C.seen,λi a T G=>?_,λx hx=>C.own x hx.1,λx hx=>C.wr x hx.1,λi g V L J=>?_,C.norel,λk A=>?_,λx hx=>?_,λx hx M=>?_⟩
 ·rcases h.all i a (pY hn T) G with q|q|⟨x,A,W⟩
  ·exact .inl q
  ·grind
  refine .inr (.inr ⟨x,?_,W⟩)
  rcases A with⟨hx,A⟩|⟨hx,r,X,Y⟩
  ·by_cases e:x=c
   ·subst e;exact .inr ⟨.inr rfl,t.size,E,.inr (A.hb_new (nR _) Q N)⟩
   exact .inl ⟨hx.imp id λq=>⟨q,e⟩,A.app _⟩
  exact .inr ⟨.inl hx,r,xU X hn,Y.app _⟩
 ·rcases C.over i g V L J with q|q|q
  ·exact .inl q
  ·grind
  grind
 ·rcases A with A|rfl
  ·exact C.rel k A
  grind
 ·rcases hx with hx|hx|rfl
  ·exact h.ne0 x (.inl hx.1)
  ·exact h.ne0 x (.inr hx)
  exact h.ne0 x (.inl hc)
 rcases hx with hx|rfl
 ·exact h.apart x hx M.1
 grind
def TrW.fork(h:TrW f B t act rl H)(O:fZ f (Pr act rl) H)(ae:f.n0<=c)(ac:¬act c)(Y:¬rl c)(h0:Deaf t 0=0)(aa:Deaf t c=0){x y:MemOp}(hx:x.g=0/\x.act=.go c)(hy:y.g=c/\y.act=.start){H':Nat->Hold}(hH:∀z,z≠0->z≠c->H' z=H z)(ad:∀b,¬(H' c).mine b)(af:∀b,(H' c).sh b->(H 0).mine b\/(H 0).sh b):TrW f B (t++#[x,y]) (λz=>act z\/z=c) rl H':=by
 have hc0:c≠0:=by have:=f.pos;omega
 have E:∀G∈#[x,y],G=x\/G=y:=λG C=>by simpa using C
 have hn:∀G∈#[x,y],G.act.touch?=none:=λG C=>by
  rcases E G C with rfl|rfl
  ·rw[hx.2];rfl
  rw[hy.2];rfl
 have L:=h.mute hn (λG C=>by
  rcases E G C with rfl|rfl
  ·rw[hx.2];exact trivial
  ·rw[hy.2];exact trivial) (λG C=>by
  rcases E G C with rfl|rfl
  ·rw[hx.2];simp
  rw[hy.2];simp)
 have M:∀z,act z\/rl z->z≠0/\z≠c:=λz s=>⟨h.pos s,λe=>by subst e;exact s.elim ac Y⟩;have Q:∀z,act z\/rl z->H' z=H z:=λz s=>hH z (M z s).1 (M z s).2;have N:∀i a,touchAt t i=some a->a.loc.isMemory=true->¬bW f.dead a.loc->¬ShN f.Wg a.loc->(∀z,act z\/rl z->¬(f.Own (H z) z a.loc)/\¬(InL (H z).sh a.loc/\a.write=false))->Knows t 0 i:=by
  intro i a J T n1 n2 n3
  rcases h.all i a J T with q|q|⟨z,R,hh⟩
  ·exact absurd q.1 n1
  ·exact absurd q n2
  by_cases X:z=0
  ·subst X
   rcases R with⟨_,R⟩|⟨q,_⟩
   ·exact R
   grind
  have s:act z\/rl z:=R.elim (λq=>.inl (q.1.resolve_left X)) λq=>.inr q.1;exact((hh X).elim (n3 z s).1 (n3 z s).2).elim
 refine⟨L.clean,L.quiet,L.seen,λi a J T=>?_,λz s i a J v=>?_,λz s i a J v W=>?_,λi g hg ab Z=>?_,L.norel,L.rel,λz s=>?_,λz s V=>?_⟩
 ·rcases L.all i a J T with q|q|⟨z,R,hh⟩
  ·exact .inl q
  ·exact .inr (.inl q)
  refine .inr (.inr ⟨z,R.imp (λq=>⟨q.1.imp id .inl,q.2⟩) id,λX=>?_⟩);have s:act z\/rl z:=R.elim (λq=>.inl (q.1.resolve_left X)) λq=>.inr q.1;rw[Q z s];exact hh X
 ·rcases s with s|rfl
  ·rw[Q z (.inl s)]at v;exact L.own z s i a J v
  rcases v with v|⟨_,v⟩
  ·exact(InL.no (q:=λ_=>True) (λb p _=>ad b p) v (v.mono λ_ _=>trivial)).elim
  refine fork_knows hx hy h0 aa (N i a (pY hn J) (by rw[v];rfl) (by rw[v];exact f.dC) (λ⟨b,e,hb⟩=>?_) λw W=>⟨λq=>?_,λq=>?_⟩)
  ·rw[v]at e;simp only[Loc.cell.injEq]at e;subst e;exact f.CW hb
  ·rw[v]at q
   rcases q with q|⟨q1,q⟩
   ·exact(O.no w f.C (.inr W) (.inl q)).1 rfl
   simp only[Loc.cell.injEq,Addr.mk.injEq,true_and,and_true]at q;exact(M w W).2 zP
  rw[v]at q;exact(O.no w f.C (.inr W) (.inr q.1)).1 rfl
 ·rcases s with s|rfl
  ·rw[Q z (.inl s)]at v;exact L.wr z s i a J v W
  have A:InL (λb=>(H 0).mine b\/(H 0).sh b) a.loc:=v.mono af;refine fork_knows hx hy h0 aa (N i a (pY hn J) v.mem (λq=>?_) (λ⟨b,e,hb⟩=>?_) λw U=>⟨λq=>?_,λq=>?_⟩)
  ·cases e:a.loc with
   |cell b=>rw[e]at q A;exact(O.no 0 b.block (.inl rfl) A).2.2 q
   |_=>rw[e]at q;exact q.elim
  ·rw[e]at A;exact(O.no 0 b.block (.inl rfl) A).2.1 hb
  ·rcases q with q|⟨_,q⟩
   ·exact InL.no (λb p r=>r.elim (O.mm w 0 b (.inr U) (.inl rfl) (M w U).1 p) (O.ms w 0 b (.inr U) (.inl rfl) p)) q A
   rw[q]at A;exact(O.no 0 f.C (.inl rfl) A).1 rfl
  rw[W]at q;cases q.2
 ·rcases L.over i g hg ab Z with q|q|q
  ·exact .inl q
  ·exact .inr (.inl (.inl q))
  exact .inr (.inr q)
 ·rcases s with(s|rfl)|s
  ·exact h.ne0 z (.inl s)
  ·exact ae
  exact h.ne0 z (.inr s)
 rcases V with V|rfl
 ·exact h.apart z s V
 exact Y s
def TrW.join(h:TrW f B t act rl H)(X:∀c,¬act c)(W:Deaf t 0=0)(fn:fI)(pos:String)(hB:f.Wg<B):
 Past (bW λb=>f.dead b\/b=f.Wg) B (t++Af9 0 fn pos #[Agj (.acquire (stA f.Wg))]):=by
 have v:∀y∈Af9 0 fn pos #[Agj (.acquire (stA f.Wg))],y.act=.mark (.acquire (stA f.Wg)):=λy s=>by obtain⟨e,Z,rfl⟩:=Af4 s;simp only[Af7,Ab3,Aav,or_false]at Z;subst Z;rfl
 have hn:∀y∈Af9 0 fn pos #[Agj (.acquire (stA f.Wg))],y.act.touch?=none:=λy s=>by rw[v y s];rfl
 have M:=h.mute hn (λy s=>by rw[v y s];exact hB) (λy s=>by rw[v y s];simp);have R:Af9 0 fn pos #[Agj (.acquire (stA f.Wg))]=#[{g:=0,fn,pos,act:=.mark (.acquire (stA f.Wg))}]:=by rw[ofEvents_eq];simp[Go.ConcR.ofEvent_mk]
 have Q:(t++Af9 0 fn pos #[Agj (.acquire (stA f.Wg))])[t.size]? =some {g:=0,fn,pos,act:=.mark (.acquire (stA f.Wg))}:=by rw[R];simp
 have A:(t++Af9 0 fn pos #[Agj (.acquire (stA f.Wg))]).heard t.size:=⟨0,by simp[Trace.g?,Q],by rw[deaf_old (nR _)];exact W⟩;have C:∀x r,RelBy (stA f.Wg) t x r->HappensBefore (t++Af9 0 fn pos #[Agj (.acquire (stA f.Wg))]) r t.size:=λx r N=>by have w:=xU N hn;exact .single (.inr ⟨.marked (lt_of_act? N.act) (.inr w.act) (by rw[act?_of Q]) (λk _ _=>M.norel k),w.heard,A⟩)
 have G:∀i a,touchAt (t++Af9 0 fn pos #[Agj (.acquire (stA f.Wg))]) i=some a->a.loc.isMemory=true->(bW f.dead a.loc/\a.kind=.atomic)\/ShN f.Wg a.loc\/Knows (t++Af9 0 fn pos #[Agj (.acquire (stA f.Wg))]) 0 i:=λi a O E=>by
  rcases h.all i a (pY hn O) E with q|q|⟨x,L,_⟩
  ·exact .inl q
  ·grind
  refine .inr (.inr ?_)
  rcases L with⟨hx,L⟩|⟨hx,r,J,V⟩
  ·rcases hx with rfl|hx
   ·exact L.app _
   grind
  exact⟨t.size,_,Q,rfl,.inr ((V.app _).hb (C x r J))⟩
 refine⟨M.clean,λi a O E=>?_,λi g T U hc=>?_,?_,M.seen⟩
 ·rcases G i a O E with⟨J,V⟩|⟨b,e,Y⟩|q
  ·refine .inr ⟨?_,V⟩
   cases e:a.loc with
   |cell b=>rw[e]at J;exact .inl J
   |_=>rw[e]at J;exact J.elim
  ·obtain⟨z,hz,hza⟩:=touch_of O;obtain⟨k1,k2⟩:=M.quiet i z a hz hza ⟨b,e,Y⟩
   cases L:a.kind with
   |plain=>exact absurd L k1
   |atomic=>exact .inr ⟨by rw[e];exact .inr Y,rfl⟩
   |said=>grind [knows_own]
  exact .inl q
 ·have hc0:=hc
  rcases M.over i g T U hc with q|q|q
  ·exact q
  ·grind
  obtain⟨r,N⟩:=h.rel g q;have w:=xU N hn;have ab:i<=r:=Nat.le_of_not_lt λhlt=>w.after i hlt T hc0
  rcases Nat.lt_or_ge i r with hlt|aa
  ·exact⟨t.size,by simp[Trace.g?,Q],.trans (.single (.inl ⟨hlt,g,T,w.g⟩)) (C g r N)⟩
  grind [Trace.g?]
 rw[Agm];simp[deafBehind,Agj,W]
end
end
section
open Go.ConcR (KK WgAt stA smA rd wr Payload)
section
variable [Payload]
structure Ph where
 f:Fam
 n:Nat
 small:n<2147483647
 tw:TypeId
 val:Nat->Value->(Nat->Prop)->wD->Prop
 keep:∀i v m u u',(∀b,m b->u'.heap[b]? =u.heap[b]?)->val i v m u->val i v m u'
abbrev X:=Hold×gO×wD
inductive Tg where
 |idle (j:Nat)
 |add (j:Nat)
 |said (j:Nat)
 |en (j:Nat)
 |go (j:Nat)
 |ld (m:Nat)
 |cas (vs:Nat)
 |sw
 |sem
 |ld2
 |wen
 |acq
def Tg.deaf:Tg->Nat
 |.idle _|.go _|.acq=>0
 |_=>1
def Tg.started(n:Nat):Tg->Nat
 |.idle j|.add j|.said j|.en j|.go j=>j
 |_=>n
def Tg.pend:Tg->Nat
 |.said _|.en _|.go _=>1
 |_=>0
section
variable (P:pQ) (φ:Ph)
def noL:Nat->Loc->Prop:=λ_ _=>False
def vP(k:Nat)(H:Hold)(g:gO)(u:wD):Prop:=
 ∃v g',φ.val k v H.mine u/\(PayAt φ.f.C φ.n u->stepG P false g u=.go g' (u.setCell ⟨φ.f.C,k,none⟩ v) #[⟨.cell ⟨φ.f.C,k,none⟩,true,false⟩])/\
  ∀u2,WgLive φ.tw φ.f.Wg u2->Has φ.f.C k v u2->∃m,Goes P false (RW φ.tw φ.f.Wg φ.f.C φ.n 0 k) Agi (AtR0 P φ.tw φ.f.Wg φ.f.C φ.n 0 (k+1) v) m g' u2
def Hold.shared(H:Hold):Hold:=⟨λ_=>False,λb=>H.mine b\/H.sh b⟩
variable (Fin:Hold->gO->wD->Prop)
def Spec(a:Tg->X->Prop):Tg->Hold->gO->wD->Prop
 |.idle j=>λH g u=>∃g',stepG P true g u=.go g' u #[Agj .disable]/\a (if j<φ.n then .add j else .ld φ.n) (H,g',u)
 |.add j=>λH g u=>∀v:Nat,v<2147483647->WgAt φ.tw φ.f.Wg u (v*KK) 0->
  ∃g',stepG P true g u=.go g' (u.setCell (stA φ.f.Wg) (.int .u64 ((v+1)*KK))) #[rd (stA φ.f.Wg),wr (stA φ.f.Wg)]/\a (if v=0 then .said j else .en j) (H,g',u.setCell (stA φ.f.Wg) (.int .u64 ((v+1)*KK)))
 |.said j=>λH g u=>∃g',stepG P true g u=.go g' u #[⟨.mark (.read (smA φ.f.Wg)),false,true⟩]/\a (.en j) (H,g',u)
 |.en j=>λH g u=>∃g',stepG P true g u=.go g' u #[Agj .enable]/\a (.go j) (H,g',u)
 |.go j=>λH g u=>∃g' e,stepG P true g u=.spawn g' e u #[]/\aH P false (vP P φ j) (H.shared,e,u)/\a (.idle (j+1)) (H.shared,g',u)
 |.ld m=>λH g u=>∀v:Nat,v<=m->WgAt φ.tw φ.f.Wg u (v*KK) 0->∃g',stepG P true g u=.go g' u #[rd (stA φ.f.Wg)]/\a (if v=0 then .wen else .cas v) (H,g',u)
 |.cas vs=>λH g u=>∀v:Nat,v<=vs->WgAt φ.tw φ.f.Wg u (v*KK) 0->
  (v=vs->∃g',stepG P true g u=.go g' (u.setCell (stA φ.f.Wg) (.int .u64 (v*KK+1))) #[rd (stA φ.f.Wg),wr (stA φ.f.Wg)]/\a .sw (H,g',u.setCell (stA φ.f.Wg) (.int .u64 (v*KK+1))))/\
  (v<vs->∃g',stepG P true g u=.go g' u #[rd (stA φ.f.Wg)]/\a (.ld v) (H,g',u))
 |.sw=>λH g u=>∃g',stepG P true g u=.go g' u #[⟨.mark (.write (smA φ.f.Wg)),false,true⟩]/\a .sem (H,g',u)
 |.sem=>λH g u=>g.offers=none/\((∃st,WgAt φ.tw φ.f.Wg u st 0)->stepG P true g u=.go {g with status:=.blocked} u #[])/\
  (WgAt φ.tw φ.f.Wg u 0 1->∃g',stepG P true g u=.go g' (u.setCell (smA φ.f.Wg) (.int .u32 0)) (semEvents (smA φ.f.Wg))/\a .ld2 (H,g',u.setCell (smA φ.f.Wg) (.int .u32 0)))
 |.ld2=>λH g u=>WgAt φ.tw φ.f.Wg u 0 0->∃g',stepG P true g u=.go g' u #[rd (stA φ.f.Wg)]/\a .wen (H,g',u)
 |.wen=>λH g u=>∃g',stepG P true g u=.go g' u #[Agj .enable]/\a .acq (H,g',u)
 |.acq=>λH g u=>∃g',stepG P true g u=.go g' u #[Agj (.acquire (stA φ.f.Wg))]/\g'.status=.running/\Fin H g' u
def Sct:Nat->Tg->Hold->gO->wD->Prop
 |0,_=>λ_ _ _=>False
 |ρ+1,tag=>λH g u=>Spec P φ Fin (λa x=>aH P true (Sct ρ a) x) tag H g u\/(WgLive φ.tw φ.f.Wg u->∃g',stepG P true g u=.go g' u #[]/\aH P true (Sct ρ tag) (H,g',u))
def Tg.need:Tg->Nat
 |.add _|.said _|.en _|.go _=>1
 |_=>0
omit [Payload] in
def Tg.pend_le:∀tag:Tg,tag.pend<=tag.need
 |.idle _|.add _|.said _|.en _|.go _|.ld _|.cas _|.sw|.sem|.ld2|.wen|.acq=>by simp[Tg.pend,Tg.need]
def EC(ρ:Nat)(tag:Tg)(i:Nat):Hold->gO->wD->Prop:=if i=0 then Sct P φ Fin ρ tag else vP P φ (i-φ.f.n0)
end
structure KD where
 stage:Nat
 fuel:Nat
 deaf:Nat
 val:Value
def dJ(d:KD):Nat:=if 5<=d.stage then 1 else 0
def VK(j:Nat)(D:Nat->KD):Nat:=sumTo j λi=>dJ (D i)
def qg(j:Nat)(D:Nat->KD):Prop:=∀i,i<j->5<=(D i).stage\/(D i).stage=1
def xW(j:Nat)(D:Nat->KD):Prop:=∀i,i<j->(D i).stage=1
def Tg.isOpen:Tg->Prop
 |.idle _|.add _|.said _|.en _|.go _|.ld _|.cas _=>True
 |_=>False
def Tg.isReg:Tg->Prop
 |.sw|.sem=>True
 |_=>False
def Tg.isFin:Tg->Prop
 |.ld2|.wen|.acq=>True
 |_=>False
inductive dG (j:Nat) (D:Nat->KD):Tg->Int->Int->Prop
 |opn {tag:Tg}:tag.isOpen->qg j D->(∀m,tag=.ld m->VK j D<=m)->(∀vs,tag=.cas vs->VK j D<=vs/\1<=vs)->dG j D tag (((VK j D+tag.pend:Nat):Int)*KK) 0
 |reg {tag:Tg}:tag.isReg->qg j D->1<=VK j D->dG j D tag (((VK j D:Nat):Int)*KK+1) 0
 |last {tag:Tg} (L:Nat):tag.isReg->L<j->((D L).stage=4\/(D L).stage=3\/(D L).stage=2)->(∀i,i<j->i≠L->(D i).stage=1)->dG j D tag (if (D L).stage=2 then 0 else 1) 0
 |sema {tag:Tg}:tag.isReg->xW j D->dG j D tag 0 1
 |fin {tag:Tg}:tag.isFin->xW j D->dG j D tag 0 0
section
variable (P:pQ) (φ:Ph) (Fin:Hold->gO->wD->Prop)
def oK(k:Nat)(d:KD)(g:gO)(u:wD):Prop:=
 (d.stage=7/\d.deaf=0/\Goes P false (RW φ.tw φ.f.Wg φ.f.C φ.n 0 k) Agi (AtR0 P φ.tw φ.f.Wg φ.f.C φ.n 0 (k+1) d.val) d.fuel g u)\/
  (d.stage<=6/\WSit P φ.tw φ.f.Wg φ.f.C φ.n noL noL 0 (k+1) d.val d.stage d.fuel d.deaf g u)
variable {P φ} in
theorem oK.rely{d:KD}(h:oK P φ k d g u)(hr:RW φ.tw φ.f.Wg φ.f.C φ.n 0 k u u'):oK P φ k d g u':=by
 rcases h with⟨e,h2,r⟩|⟨e,h2⟩
 ·exact .inl ⟨e,h2,Goes.rely (λ_ _ _ a b=>a.trans b) r hr⟩
 exact .inr ⟨e,h2.rely hr⟩
variable {P φ} in
theorem oK.status{d:KD}(h:oK P φ k d g u):g.status=.running\/g.status=.finished:=by
 rcases h with⟨_,_,a⟩|⟨_,h2⟩
 ·exact .inl (Goes.running (λ_ _ x=>x.1) u (Ago u) a)
 exact h2.status
variable {P φ} in
theorem oK.woken{d:KD}(h:oK P φ k d g u)(a a':gO)(w':wD):Agb P a a' w' g=g:=by
 unfold Agb
 split
 ·exact again_running _ h.status
 rfl
structure KY (k:Nat) (d:KD) (g:gO) (u:wD) (H:Hold):Prop where
 sit:oK P φ k d g u
 has:Has φ.f.C k d.val u
 val:φ.val k d.val H.mine u
def bP(f:Fam)(j:Nat)(D:Nat->KD)(x:Nat):Prop:=∃k,k<j/\x=f.n0+k/\7<=(D k).stage
def rlK(f:Fam)(j:Nat)(D:Nat->KD)(x:Nat):Prop:=∃k,k<j/\x=f.n0+k/\(D k).stage<=6
structure aO (u0:wD) (tag:Tg) (blk:Bool) (D:Nat->KD) (l:List (Option X)) (gs:Array gO) (u:wD) (t:Agp) (q:Nat->Nat) (H:Nat->Hold):Prop where
 jn:tag.started φ.n+tag.need<=φ.n
 len:l.length=gs.size
 size:gs.size=φ.f.n0+tag.started φ.n
 main:∃x,l[0]? =some (some x)/\gs[0]? =some (if blk then {x.2.1 with status:=.blocked}else x.2.1)/\x.1=H 0/\Off (H 0) x.2.2 u/\x.2.1.status=.running
 blocked:blk=true->tag=.sem/\∃x,l[0]? =some (some x)/\x.2.1.offers=none
 kid:∀k,k<tag.started φ.n->∃g,gs[φ.f.n0+k]? =some g/\Deaf t (φ.f.n0+k)=(D k).deaf/\
  (((D k).stage=8/\(D k).deaf=0/\∃x,l[φ.f.n0+k]? =some (some x)/\g=x.2.1/\x.1=H (φ.f.n0+k)/\Off (H (φ.f.n0+k)) x.2.2 u/\g.status=.running)\/
   ((D k).stage<=7/\l[φ.f.n0+k]? =some none/\KY P φ k (D k) g u (H (φ.f.n0+k))))
 leav:∀i,0<i->i<φ.f.n0->l[i]? =some none/\∃g,gs[i]? =some g/\QuitsD P (q i) (Deaf t i) g
 deaf0:Deaf t 0=tag.deaf
 above:∀i,gs.size<=i->Deaf t i=0
 tr:TrW φ.f u.heap.size t (bP φ.f (tag.started φ.n) D) (rlK φ.f (tag.started φ.n) D) H
 apt:fZ φ.f (Pr (bP φ.f (tag.started φ.n) D) (rlK φ.f (tag.started φ.n) D)) H
 low:∀x b,Pr (bP φ.f (tag.started φ.n) D) (rlK φ.f (tag.started φ.n) D) x->(H x).mine b\/(H x).sh b->b<u.heap.size
 mode:∃st sm,WgAt φ.tw φ.f.Wg u st sm/\dG (tag.started φ.n) D tag st sm
 pay:PayAt φ.f.C φ.n u
 dead:∀b,φ.f.dead b->b<u.heap.size
 same:u0.heap.size<=u.heap.size/\u.tape=u0.tape/\u.os=u0.os/\u.output=u0.output
end
end
end
section
open Go.ConcR (KK WgAt stA smA rd wr Payload)
section
variable [Payload] {P:pQ} {φ:Ph} {Fin:Hold->gO->wD->Prop} {u0:wD} {tag:Tg} {blk:Bool} {D:Nat->KD} {l:List (Option X)} {gs:Array gO} {u:wD} {t:Trace} {q:Nat->Nat} {H:Nat->Hold}
theorem aO.pos(h:aO P φ u0 tag blk D l gs u t q H):0<gs.size:=by have:=φ.f.pos;have:=h.size;omega
omit [Payload] in
def mP(f:Fam)(D:Nat->KD)(a:k<j):bP f j D (f.n0+k)\/rlK f j D (f.n0+k):=by
 by_cases e:7<=(D k).stage
 ·exact .inl ⟨k,a,rfl,e⟩
 exact .inr ⟨k,a,rfl,zP⟩
omit [Payload] in
def Xh(f:Fam){D:Nat->KD}(h:bP f j D x\/rlK f j D x):∃k,k<j/\x=f.n0+k:=by rcases h with⟨k,a,h2,_⟩|⟨k,a,h2,_⟩<;>exact⟨k,a,h2⟩
def aO.step0(h:aO P φ u0 tag false D l gs u t q H){tag':Tg}(s:tag'.started φ.n=tag.started φ.n)(aa:tag.started φ.n+tag'.need<=φ.n){y:X}(T:y.2.1.status=.running)(hg:∀op∈ops,op.g=0)(C:u.heap.size<=y.2.2.heap.size)(r:y.2.2.tape=u.tape/\y.2.2.os=u.os/\y.2.2.output=u.output)(L:∀b,b<u.heap.size->b≠φ.f.Wg->¬(H 0).mine b->y.2.2.heap[b]? =u.heap[b]?)(U:∀k,k<tag.started φ.n->RW φ.tw φ.f.Wg φ.f.C φ.n 0 k u y.2.2)(J:Deaf (t++ops) 0=tag'.deaf)(ad:TrW φ.f y.2.2.heap.size (t++ops) (bP φ.f (tag.started φ.n) D) (rlK φ.f (tag.started φ.n) D) (upd H 0 y.1))(O:fZ φ.f (Pr (bP φ.f (tag.started φ.n) D) (rlK φ.f (tag.started φ.n) D)) (upd H 0 y.1))(ae:∀b,y.1.mine b\/y.1.sh b->b<y.2.2.heap.size)(M:∃st sm,WgAt φ.tw φ.f.Wg y.2.2 st sm/\dG (tag.started φ.n) D tag' st sm)(R:PayAt φ.f.C φ.n y.2.2):
 aO P φ u0 tag' false D (l.set 0 (some y)) (gs.setIfInBounds 0 y.2.1) y.2.2 (t++ops) q (upd H 0 y.1):=by
 have G:=h.pos;have af:=φ.f.pos;have V:∀j,j≠0->(gs.setIfInBounds 0 y.2.1)[j]? =gs[j]? :=by grind
 have ac:∀j,j≠0->(l.set 0 (some y))[j]? =l[j]? :=by grind
 have ab:(l.set 0 (some y))[0]? =some (some y):=Af1 (by rw[h.len];exact G);have hd:∀j,j≠0->Deaf (t++ops) j=Deaf t j:=λj hj=>Deaf_other t (g:=j) (g':=0) (Ne.symm hj) _ hg;have hU:∀x,x≠0->upd H 0 y.1 x=H x:=by grind [upd_ne]
 have E:∀k,k<tag.started φ.n->Off (H (φ.f.n0+k)) u y.2.2:=λk w=>by
  have Q:Pr (bP φ.f (tag.started φ.n) D) (rlK φ.f (tag.started φ.n) D) (φ.f.n0+k):=.inr (mP φ.f D w);refine⟨C,λb v N=>L b v (h.apt.no _ b Q N).2.1 λh0=>?_,r⟩
  rcases N with N|N
  ·exact h.apt.mm 0 (φ.f.n0+k) b (.inl rfl) Q zP h0 N
  exact h.apt.ms 0 (φ.f.n0+k) b (.inl rfl) Q h0 N
 refine⟨by rw[s];exact aa,by simpa using h.len,by rw[s];simpa using h.size,⟨y,ab,by simp[G],by rw[upd_same],by rw[upd_same];exact Off.refl _ _,T⟩,(λe=>by cases e),λk w=>?_,λi W Z=>?_,J,λi W=>?_,by rw[s];exact ad,by rw[s];exact O,λx b hx v=>?_,by rw[s];exact M,R,λb v=>nL (h.dead b v) C,⟨Agd h.same.1 C,r.1.trans h.same.2.1,r.2.1.trans h.same.2.2.1,r.2.2.trans h.same.2.2.2⟩⟩
 ·rw[s]at w;have A:φ.f.n0+k≠0:=zP
  obtain⟨g,h1,h2,h3⟩:=h.kid k w;refine⟨g,by rw[V _ A];exact h1,by rw[hd _ A];exact h2,?_⟩;rw[ac _ A,hU _ A]
  rcases h3 with⟨a,b,x,c1,c2,c3,c4,c5⟩|⟨a,b,c⟩
  ·exact .inl ⟨a,b,x,c1,c2,c3,c4.trans (E k w),c5⟩
  have ho:=E k w;have Q:Pr (bP φ.f (tag.started φ.n) D) (rlK φ.f (tag.started φ.n) D) (φ.f.n0+k):=.inr (mP φ.f D w);exact .inr ⟨a,b,c.sit.rely (U k w),(U k w).cell.trans c.has,φ.keep _ _ _ _ _ (λb v=>ho.keep b (h.low _ b Q (.inl v)) (.inl v)) c.val⟩
 ·obtain⟨h1,g,h2,h3⟩:=h.leav i W Z
  grind
 ·have Y:gs.size<=i:=by simpa using W
  rw[hd i zP];exact h.above i Y
 rw[s]at hx;by_cases e:x=0
 ·grind [upd_same]
 rw[hU x e]at v;exact nL (h.low x b hx v) C
omit [Payload] in
def ug(f:Fam)(j:Nat)(D:Nat->KD)(x:Nat):Pr (bP f j D) (rlK f j D) x↔x=0\/∃k,k<j/\x=f.n0+k:=by
 constructor
 ·rintro(h|h)
  ·exact .inl h
  exact .inr (Xh f h)
 rintro(h|⟨k,a,rfl⟩)
 ·exact .inl h
 exact .inr (mP f D a)
omit [Payload] in
def fZ.congr{f:Fam}{r:Nat->Prop}{H:Nat->Hold}(h:fZ f p H)(a:∀x,r x->p x):fZ f r H:=
 ⟨λx y b hx e=>h.mm x y b (a x hx) (a y e),λx y b hx e=>h.ms x y b (a x hx) (a y e),λx b hx=>h.no x b (a x hx)⟩
def aO.stepK(h:aO P φ u0 tag blk D l gs u t q H)(hk:k<tag.started φ.n){d':KD}{o:Option X}{Hk:Hold}(hg:∀op∈ops,op.g=φ.f.n0+k)(w:u.heap.size<=u'.heap.size)(r:u'.tape=u.tape/\u'.os=u.os/\u'.output=u.output)(C:∀b,b<u.heap.size->b≠φ.f.Wg->b≠φ.f.C->¬(H (φ.f.n0+k)).mine b->u'.heap[b]? =u.heap[b]?)(R:∀k',k'<tag.started φ.n->k'≠k->RW φ.tw φ.f.Wg φ.f.C φ.n 0 k' u u')(ab:Deaf (t++ops) (φ.f.n0+k)=d'.deaf/\((d'.stage=8/\d'.deaf=0/\∃x,o=some x/\g'=x.2.1/\x.1=Hk/\Off Hk x.2.2 u'/\g'.status=.running)\/(d'.stage<=7/\o=none/\KY P φ k d' g' u' Hk)))(Z:TrW φ.f u'.heap.size (t++ops) (bP φ.f (tag.started φ.n) (upd D k d')) (rlK φ.f (tag.started φ.n) (upd D k d')) (upd H (φ.f.n0+k) Hk))(M:fZ φ.f (Pr (bP φ.f (tag.started φ.n) D) (rlK φ.f (tag.started φ.n) D)) (upd H (φ.f.n0+k) Hk))(ac:∀b,Hk.mine b\/Hk.sh b->b<u'.heap.size)(G:∃st sm,WgAt φ.tw φ.f.Wg u' st sm/\dG (tag.started φ.n) (upd D k d') tag st sm)(O:PayAt φ.f.C φ.n u'):
 aO P φ u0 tag blk (upd D k d') (l.set (φ.f.n0+k) o) (gs.setIfInBounds (φ.f.n0+k) g') u' (t++ops) q (upd H (φ.f.n0+k) Hk):=by
 have ae:=φ.f.pos;have hlt:φ.f.n0+k<gs.size:=by rw[h.size];omega
 have A:∀j,j≠φ.f.n0+k->(gs.setIfInBounds (φ.f.n0+k) g')[j]? =gs[j]? :=by grind
 have N:∀j,j≠φ.f.n0+k->(l.set (φ.f.n0+k) o)[j]? =l[j]? :=by grind
 have ad:(l.set (φ.f.n0+k) o)[φ.f.n0+k]? =some o:=Af1 (by rw[h.len];exact hlt);have U:∀j,j≠φ.f.n0+k->Deaf (t++ops) j=Deaf t j:=λj L=>Deaf_other t (g:=j) (g':=φ.f.n0+k) (Ne.symm L) _ hg;have T:∀x,x≠φ.f.n0+k->upd H (φ.f.n0+k) Hk x=H x:=by grind [upd_ne]
 have Q:Pr (bP φ.f (tag.started φ.n) D) (rlK φ.f (tag.started φ.n) D) (φ.f.n0+k):=.inr (mP φ.f D hk);have y:∀x,Pr (bP φ.f (tag.started φ.n) D) (rlK φ.f (tag.started φ.n) D) x->x≠φ.f.n0+k->Off (H x) u u':=λx J hx=>by
  refine⟨w,λb v E=>C b v (h.apt.no _ b J E).2.1 (h.apt.no _ b J E).1 λh0=>?_,r⟩
  rcases E with E|E
  ·exact h.apt.mm (φ.f.n0+k) x b Q J (Ne.symm hx) h0 E
  exact h.apt.ms (φ.f.n0+k) x b Q J h0 E
 obtain⟨x0,m1,m2,m3,m4,m5⟩:=h.main;refine⟨h.jn,by simpa using h.len,by simpa using h.size,⟨x0,by rw[N 0 zP];exact m1,by rw[A 0 zP];exact m2,by rw[T 0 zP];exact m3,by rw[T 0 zP];exact m4.trans (y 0 (.inl rfl) zP),m5⟩,λe=>?_,λj L=>?_,λi V Y=>?_,by rw[U 0 zP];exact h.deaf0,λi V=>?_,Z,M.congr λx hx=>(ug φ.f _ D x).2 ((ug φ.f _ _ x).1 hx),λx b hx v=>?_,G,O,λb v=>nL (h.dead b v) w,⟨Agd h.same.1 w,r.1.trans h.same.2.1,r.2.1.trans h.same.2.2.1,r.2.2.trans h.same.2.2.2⟩⟩
 ·obtain⟨e1,x,e2,e3⟩:=h.blocked e
  grind
 ·by_cases e:j=k
  ·grind [upd_same]
  have s:φ.f.n0+j≠φ.f.n0+k:=zP
  obtain⟨g,h1,h2,h3⟩:=h.kid j L;have J:Pr (bP φ.f (tag.started φ.n) D) (rlK φ.f (tag.started φ.n) D) (φ.f.n0+j):=.inr (mP φ.f D L);have ho:=y _ J s;refine⟨g,by rw[A _ s];exact h1,by rw[U _ s,upd_ne D _ e];exact h2,?_⟩;rw[N _ s,T _ s,upd_ne D _ e]
  rcases h3 with⟨a,b,x,c1,c2,c3,c4,c5⟩|⟨a,b,c⟩
  ·exact .inl ⟨a,b,x,c1,c2,c3,c4.trans ho,c5⟩
  exact .inr ⟨a,b,c.sit.rely (R j L e),(R j L e).cell.trans c.has,φ.keep _ _ _ _ _ (λb v=>ho.keep b (h.low _ b J (.inl v)) (.inl v)) c.val⟩
 ·obtain⟨h1,g,h2,h3⟩:=h.leav i V Y
  grind
 ·have W:gs.size<=i:=by simpa using V
  rw[U i zP];exact h.above i W
 have aa:=(ug φ.f _ D x).2 ((ug φ.f _ _ x).1 hx);by_cases e:x=φ.f.n0+k
 ·grind [upd_same]
 rw[T x e]at v;exact nL (h.low x b aa v) w
def aO.wake(h:aO P φ u0 tag blk D l gs u t q H)(g g':gO)(w:wD):∃a,(a=true->blk=true)/\(Agn P g=true->g'.status=.running->a=false)/\aO P φ u0 tag a D l (gs.map (Agb P g g' w)) u t q H:=by
 obtain⟨v,T,M,U,V,W⟩:=h.main;have r:∀i:Nat,(gs.map (Agb P g g' w))[i]? =(gs[i]?).map (Agb P g g' w):=by grind
 have s:∀a,(a=true->blk=true)->(gs.map (Agb P g g' w))[0]? =some (if a then {v.2.1 with status:=.blocked}else v.2.1)->aO P φ u0 tag a D l (gs.map (Agb P g g' w)) u t q H:=λa Q O=>by
  refine⟨h.jn,by simpa using h.len,by simpa using h.size,⟨v,T,O,U,V,W⟩,λe=>h.blocked (Q e),λk R=>?_,λi E C=>?_,h.deaf0,λi E=>h.above i (by grind),h.tr,h.apt,h.low,h.mode,h.pay,h.dead,h.same⟩
  ·obtain⟨gk,y,h2,A⟩:=h.kid k R;refine⟨gk,?_,h2,A⟩;rw[r,y,Aaw]
   rcases A with⟨_,_,x,_,_,_,_,N⟩|⟨_,_,c⟩
   ·rw[woken_run N]
   rw[c.sit.woken]
  obtain⟨y,gi,h2,A⟩:=h.leav i E C
  grind [Agh]
 cases blk with
 |false=>exact⟨false,λe=>e,λ_ _=>rfl,s false (λe=>e) (by grind [woken_run])⟩
 |true=>
  obtain⟨J,x,hx,hs⟩:=h.blocked rfl;have G:v.2.1.offers=none:=by grind
  by_cases L:(Agn P g&&g'.status !=.blocked&&g'.status !=.waiting)=true
  ·refine⟨false,(λe=>by cases e),λ_ _=>rfl,s false (λe=>by cases e) ?_⟩;rw[r,M];simp only[Aaw,Bool.false_eq_true,if_false,oI];unfold Agb;rw[if_pos L];obtain⟨Y,⟨fr,Z,st,dy,X⟩,w1⟩:=v
   grind [Goroutine.again]
  refine⟨true,λ_=>rfl,λy h2=>absurd (by grind) L,s true (λ_=>rfl) ?_⟩;rw[r,M];simp only[Aaw,if_true,oI];unfold Agb
  grind
omit [Payload] in
def KZ{H:Hold}(a:∀e∈es,EvO H e):∀e∈es,e.loc≠.mark .disable/\e.loc≠.mark .enable:=by
 intro e r;have:=a e r
 cases this<;>exact⟨yW,yW⟩
omit [Payload] in
def Xi{f:Fam}{H:Hold}{g:Nat}{pos:String}(A:∀e∈es,EvO H e)(s:∀b,H.mine b\/H.sh b->b<B):(∀C∈Af9 g fn pos es,OpW f B H x C)/\∀C∈Af9 g fn pos es,C.act≠.mark (.release (stA f.Wg)):=by
 refine⟨λC w=>?_,λC w=>?_⟩
 ·obtain⟨e,E,rfl⟩:=Af4 w
  have:=A e E
  cases this with
  | @read a hm=>exact⟨s _ hm,λb v _=>by simp only[Af8,Aga,oI]at v;subst v;exact hm.elim (λy=>.inl (.inl y)) λy=>.inr (.inl ⟨y,rfl⟩)⟩
  | @write a hm=>exact⟨s _ (.inl hm),λb v _=>by simp only[Af8,Aga,oI]at v;subst v;exact .inl (.inl hm)⟩
  | @obj r hm=>exact⟨s _ hm,λb v _=>by simp only[Af8,Aga,oI]at v;subst v;exact hm.elim (λy=>.inl (.inl y)) λy=>.inr (.inl ⟨y,rfl⟩)⟩
  | @objw r hm=>exact⟨s _ (.inl hm),λb v _=>by simp only[Af8,Aga,oI]at v;subst v;exact .inl (.inl hm)⟩
  |noRoom x y=>exact⟨trivial,λb v _=>by simp[Af8,Aga]at v⟩
 obtain⟨e,E,rfl⟩:=Af4 w
 have:=A e E
 cases this<;>simp[Af8]
omit [Payload] in
def fZ.more{f:Fam}{H:Nat->Hold}(h:fZ f p H)(J:Does (H i) H' u u')(M:p i)(L:∀x b,p x->(H x).mine b\/(H x).sh b->b<u.heap.size)(N:f.C<u.heap.size)(O:f.Wg<u.heap.size)(A:∀b,f.dead b->b<u.heap.size):fZ f p (upd H i H'):=by
 have w:∀x,(upd H i H' x).sh=(H x).sh:=λx=>by
  by_cases e:x=i
  ·subst e;rw[upd_same,J.sh]
  grind [upd_ne]
 have s:∀x b,(upd H i H' x).mine b->(H x).mine b\/(x=i/\u.heap.size<=b):=λx b a=>by
  by_cases e:x=i
  ·subst e;rw[upd_same]at a;exact(J.mine b a).imp id λy=>⟨rfl,y.1⟩
  grind [upd_ne]
 refine⟨λx y b hx G E C r=>?_,λx y b hx G C r=>?_,λx b hx a=>?_⟩
 ·rcases s x b C with v|⟨rfl,v⟩
  ·rcases s y b r with h2|⟨rfl,h2⟩
   ·exact h.mm x y b hx G E v h2
   grind
  grind
 ·rw[w]at r
  rcases s x b C with v|⟨rfl,v⟩
  ·exact h.ms x y b hx G v r
  grind
 rw[w]at a
 rcases a with a|a
 ·rcases s x b a with v|⟨_,v⟩
  ·exact h.no x b hx (.inl v)
  grind
 exact h.no x b hx (.inr a)
end
end
section
open Go.ConcR (KK WgAt stA smA rd wr Payload)
section
variable [Payload] {P:pQ} {φ:Ph} {Fin:Hold->gO->wD->Prop} {u0:wD} {tag:Tg} {blk:Bool} {D:Nat->KD} {l:List (Option X)} {gs:Array gO} {u:wD} {t:Trace} {q:Nat->Nat} {H:Nat->Hold}
def aO.wgLt(h:aO P φ u0 tag blk D l gs u t q H):φ.f.Wg<u.heap.size:=by obtain⟨st,sm,a,_⟩:=h.mode;exact(aS.1 a).1
def aO.payLt(h:aO P φ u0 tag blk D l gs u t q H):φ.f.C<u.heap.size:=by
 obtain⟨a,hc,_⟩:=h.pay
 grind
def La{r:TypeId}{Wg C n:Nat}(h1:u'.heap[Wg]? =u.heap[Wg]?)(h2:u'.heap[C]? =u.heap[C]?):RW r Wg C n 0 k u u':=
 ⟨λb s=>zP,λ⟨st,sm,e⟩=>⟨st,sm,e.of_block h1⟩,λ⟨a,hc,hn⟩=>⟨a,h2.trans hc,hn⟩,cell_of_block h2 k⟩
omit [Payload] in
theorem iE{α:Type}(D:Nat->α)(k:Nat):upd D k (D k)=D:=by
 funext x
 grind [upd_same,upd_ne]
omit [Payload] in
def TrW.ownStep{f:Fam}{act rl:Nat->Prop}{pos:String}(h:TrW f u.heap.size t act rl H)(E:fZ f (Pr act rl) (upd H i H'))(G:Ac act i)(s:Does (H i) H' (u.at d) u')(A:∀e∈es,EvO H' e)(w:∀b,H'.mine b\/H'.sh b->b<u'.heap.size):TrW f u'.heap.size (t++Af9 i fn pos es) act rl (upd H i H'):=by
 have v:=Xi (f:=f) (x:=i) (g:=i) (fn:=fn) (pos:=pos) A w;refine TrW.app (h.grow s.size (H':=upd H i H') (λj b a=>?_) (λj b y a=>?_) (λj b a=>?_) (λj b _ a=>?_)) E G (λC r=>fV r) (λC r=>by rw[upd_same];exact v.1 C r) v.2
 ·by_cases e:j=i
  ·subst e;rw[upd_same];exact s.more b a
  grind [upd_ne]
 ·by_cases e:j=i
  ·subst e;rw[upd_same]at a;exact(s.mine b a).resolve_right λx=>absurd y (Nat.not_lt.2 x.1)
  grind [upd_ne]
 ·by_cases e:j=i
  ·subst e;rw[upd_same,s.sh];exact a
  grind [upd_ne]
 by_cases e:j=i
 ·subst e;rw[upd_same,s.sh]at a;exact a
 grind [upd_ne]
def aO.own0(h:aO P φ u0 tag false D l gs u t q H){y:X}(d:Nat)(fn:fI)(pos:String)(a:Does (H 0) y.1 (u.at d) y.2.2)(w:∀e∈es,EvO y.1 e)(C:y.2.1.status=.running):
 aO P φ u0 tag false D (l.set 0 (some y)) (gs.setIfInBounds 0 y.2.1) y.2.2 (t++Af9 0 fn pos es) q (upd H 0 y.1):=by
 have O:=h.wgLt;have N:=h.payLt;have M:y.2.2.heap[φ.f.Wg]? =u.heap[φ.f.Wg]? :=a.keep _ O λA=>(h.apt.no 0 _ (.inl rfl) (.inl A)).2.1 rfl;have L:y.2.2.heap[φ.f.C]? =u.heap[φ.f.C]? :=a.keep _ N λA=>(h.apt.no 0 _ (.inl rfl) (.inl A)).1 rfl;have v:∀b,y.1.mine b\/y.1.sh b->b<y.2.2.heap.size:=λb s=>by
  rw[a.sh]at s
  rcases s with s|s
  ·rcases a.mine b s with E|E
   ·exact nL (h.low 0 b (.inl rfl) (.inl E)) a.size
   exact E.2
  exact nL (h.low 0 b (.inl rfl) (.inr s)) a.size
 have r:=h.apt.more (u:=u.at d) a (.inl rfl) h.low N O h.dead;obtain⟨st,sm,R,A⟩:=h.mode;obtain⟨Q,hc,hn⟩:=h.pay;refine h.step0 rfl h.jn C (λT J=>fV J) a.size a.same (λb s _ G=>a.keep b s G) (λk _=>La M L) ?_ (h.tr.ownStep r (.inl rfl) a w v) r v ⟨st,sm,R.of_block M,A⟩ ⟨Q,L.trans hc,hn⟩;rw[Agm,deafBehind_idle (KZ w)];exact h.deaf0
def aO.ownK(h:aO P φ u0 tag blk D l gs u t q H)(O:k<tag.started φ.n)(Z:(D k).stage=8)(M:(D k).deaf=0){y:X}(d:Nat)(fn:fI)(pos:String)(a:Does (H (φ.f.n0+k)) y.1 (u.at d) y.2.2)(C:∀e∈es,EvO y.1 e)(G:y.2.1.status=.running):
 aO P φ u0 tag blk D (l.set (φ.f.n0+k) (some y)) (gs.setIfInBounds (φ.f.n0+k) y.2.1) y.2.2 (t++Af9 (φ.f.n0+k) fn pos es) q (upd H (φ.f.n0+k) y.1):=by
 have V:=h.wgLt;have U:=h.payLt;have r:bP φ.f (tag.started φ.n) D (φ.f.n0+k):=⟨k,O,rfl,zP⟩;have E:Pr (bP φ.f (tag.started φ.n) D) (rlK φ.f (tag.started φ.n) D) (φ.f.n0+k):=.inr (.inl r);have Y:y.2.2.heap[φ.f.Wg]? =u.heap[φ.f.Wg]? :=a.keep _ V λJ=>(h.apt.no _ _ E (.inl J)).2.1 rfl;have T:y.2.2.heap[φ.f.C]? =u.heap[φ.f.C]? :=a.keep _ U λJ=>(h.apt.no _ _ E (.inl J)).1 rfl;have w:∀b,y.1.mine b\/y.1.sh b->b<y.2.2.heap.size:=λb v=>by
  rw[a.sh]at v
  rcases v with v|v
  ·rcases a.mine b v with L|L
   ·exact nL (h.low _ b E (.inl L)) a.size
   exact L.2
  exact nL (h.low _ b E (.inr v)) a.size
 have s:=h.apt.more (u:=u.at d) a E h.low U V h.dead;obtain⟨st,sm,hw,J⟩:=h.mode;obtain⟨W,hc,hn⟩:=h.pay;obtain⟨g,_,N,_⟩:=h.kid k O;have A:Deaf (t++Af9 (φ.f.n0+k) fn pos es) (φ.f.n0+k)=(D k).deaf:=by rw[Agm,deafBehind_idle (KZ C)];exact N
 have aa:=h.stepK O (d':=D k) (g':=y.2.1) (o:=some y) (u':=y.2.2) (ops:=Af9 (φ.f.n0+k) fn pos es) (Hk:=y.1) (λop R=>fV R) a.size a.same (λb v _ _ Q=>a.keep b v Q) (λk' _ _=>La Y T)
  ⟨A,.inl ⟨Z,M,y,rfl,rfl,rfl,Off.refl _ _,G⟩⟩ (by rw[iE];exact h.tr.ownStep s (.inr r) a C w) s w (by grind [iE,hw.of_block]) ⟨W,T.trans hc,hn⟩
 grind [iE]
theorem aO.at(h:aO P φ u0 tag blk D l gs u t q H)(d:Nat):aO P φ u0 tag blk D l gs (u.at d) t q H:=by
 obtain⟨M,C,E,G,J,L⟩:=h.main;refine⟨h.jn,h.len,h.size,⟨M,C,E,G,J.trans (Off.at _ _ _),L⟩,h.blocked,λk A=>?_,h.leav,h.deaf0,h.above,h.tr,h.apt,h.low,h.mode,h.pay,h.dead,h.same⟩;obtain⟨g,w,h2,y⟩:=h.kid k A;refine⟨g,w,h2,?_⟩
 rcases y with⟨a,b,x,c1,e,r,s,v⟩|⟨a,b,c⟩
 ·exact .inl ⟨a,b,x,c1,e,r,s.trans (Off.at _ _ _),v⟩
 exact .inr ⟨a,b,c.sit.rely (RW.at u d),c.has,φ.keep _ _ _ u _ (λ_ _=>rfl) c.val⟩
end
end
section
open Go.ConcR (KK WgAt stA smA rd wr Payload Bk bk_of_mute ofEvent_loc_mark)
section
variable [Payload]
omit [Payload]
def ED(f:Fam)(j:Nat)(D:Nat->KD)(k:Nat)(d':KD)(h:7<=d'.stage↔7<=(D k).stage):bP f j (upd D k d')=bP f j D:=by
 funext x
 refine propext ⟨λ⟨i,a,h2,e⟩=>⟨i,a,h2,?_⟩,λ⟨i,a,h2,e⟩=>⟨i,a,h2,?_⟩⟩<;>grind [upd_same,upd_ne]
def EF(f:Fam)(j:Nat)(D:Nat->KD)(k:Nat)(d':KD)(h:7<=d'.stage↔7<=(D k).stage):rlK f j (upd D k d')=rlK f j D:=by
 funext x
 refine propext ⟨λ⟨i,a,h2,e⟩=>⟨i,a,h2,?_⟩,λ⟨i,a,h2,e⟩=>⟨i,a,h2,?_⟩⟩<;>grind [upd_same,upd_ne]
def Xj(f:Fam)(D:Nat->KD){d':KD}(s:d'.stage<=6):bP f j (upd D k d')=λx=>bP f j D x/\x≠f.n0+k:=by
 funext x
 refine propext ⟨λ⟨i,a,h2,r⟩=>?_,λ⟨⟨i,a,h2,r⟩,hx⟩=>⟨i,a,h2,?_⟩⟩
 ·by_cases e:i=k
  ·grind [upd_same]
  rw[upd_ne D _ e]at r;exact⟨⟨i,a,h2,r⟩,zP⟩
 grind [upd_ne]
def Xk(f:Fam)(D:Nat->KD){d':KD}(v:k<j)(s:d'.stage<=6):rlK f j (upd D k d')=λx=>rlK f j D x\/x=f.n0+k:=by
 funext x
 refine propext ⟨λ⟨i,a,h2,r⟩=>?_,λh=>?_⟩
 ·by_cases e:i=k
  ·grind
  rw[upd_ne D _ e]at r;exact .inl ⟨i,a,h2,r⟩
 rcases h with⟨i,a,h2,r⟩|h
 ·by_cases e:i=k
  ·subst e;exact⟨i,a,h2,by rw[upd_same];exact s⟩
  exact⟨i,a,h2,by rw[upd_ne D _ e];exact r⟩
 exact⟨k,v,h,by rw[upd_same];exact s⟩
def AL(D:Nat->KD)(x:KD)(a:i<j):VK j (upd D i x)+dJ (D i)=VK j D+dJ x:=sumTo_upd D x dJ a
def Lc(j:Nat)(D:Nat->KD):VK j D<=j:=by
 have:=sumTo_le (f:=λi=>dJ (D i)) (c:=1) (j:=j) λi _=>by simp only[dJ];split<;>omega
 simpa[VK]using this
def dG.congr{D s:Nat->KD}{tag:Tg}(h:∀a,a<j->(s a).stage=(D a).stage)(y:dG j D tag st sm):dG j s tag st sm:=by
 have v:VK j s=VK j D:=sumTo_congr λa r=>by simp only[dJ,h a r]
 have w:qg j D->qg j s:=λh2 a r=>by rw[h a r];exact h2 a r
 cases y with
 |opn h1 h2 h3 h4=>rw[<-v];exact .opn h1 (w h2) (λm e=>by rw[v];exact h3 m e) (λA e=>by rw[v];exact h4 A e)
 |reg h1 h2 h3=>rw[<-v];exact .reg h1 (w h2) (by grind)
 |last L h1 h2 h3 h4=>rw[<-h L h2];exact .last L h1 h2 (by grind) (λa r e=>by rw[h a r];exact h4 a r e)
 |sema h1 h2=>exact .sema h1 λa r=>by rw[h a r];exact h2 a r
 |fin h1 h2=>exact .fin h1 λa r=>by rw[h a r];exact h2 a r
def dG.same{D:Nat->KD}{tag:Tg}(e:dG j D tag st sm){d':KD}(h:d'.stage=(D i).stage):dG j (upd D i d') tag st sm:=
 e.congr λa _=>by grind [upd_same,upd_ne]
def dG.counted{D:Nat->KD}{tag:Tg}(y:dG j D tag st sm)(s:i<j)(h5:5<=(D i).stage){d':KD}(A:5<=d'.stage):dG j (upd D i d') tag st sm:=by
 have r:VK j (upd D i d')=VK j D:=by
  have:=AL D d' s;have c1:dJ (D i)=1:=by simp[dJ,h5]
  have E:dJ d'=1:=by simp[dJ,A]
  omega
 have v:qg j D->qg j (upd D i d'):=λh a w=>by
  by_cases e:a=i
  ·grind [upd_same]
  rw[upd_ne D _ e];exact h a w
 cases y with
 |opn h1 h2 h3 h4=>rw[<-r];exact .opn h1 (v h2) (λm e=>by rw[r];exact h3 m e) (λC e=>by rw[r];exact h4 C e)
 |reg h1 h2 h3=>rw[<-r];exact .reg h1 (v h2) (by grind)
 |last L h1 h2 h3 h4=>grind
 |sema _ h2=>have:=h2 i s;omega
 |fin h1 h2=>have:=h2 i s;omega
def dG.isLast{D:Nat->KD}{tag:Tg}(r:dG j D tag st sm)(e:i<j)(h:(D i).stage=4\/(D i).stage=3\/(D i).stage=2):
 tag.isReg/\(∀a,a<j->a≠i->(D a).stage=1)/\st=(if (D i).stage=2 then 0 else 1)/\sm=0:=by
 cases r with
 |opn _ h2 _ _=>have:=h2 i e;omega
 |reg _ h2 _=>have:=h2 i e;omega
 |last L h1 h2 h3 h4=>grind
 |sema _ h2=>have:=h2 i e;omega
 |fin _ h2=>have:=h2 i e;omega
def Xl{D:Nat->KD}(v:i<j)(h1:VK j D=1)(hc:dJ (D i)=1):∀a,a<j->a≠i->dJ (D a)=0:=by
 intro a s e;have w:=AL D (⟨0,0,0,.int .u64 0⟩:KD) v;have c0:dJ (⟨0,0,0,.int .u64 0⟩:KD)=0:=rfl;have r:VK j (upd D i ⟨0,0,0,.int .u64 0⟩)=0:=zP
 have:=le_sumTo (f:=λx=>dJ (upd D i (⟨0,0,0,.int .u64 0⟩:KD) x)) s;simp only[VK]at r
 grind [upd_ne]
end
section
variable [Payload] {P:pQ} {φ:Ph} {Fin:Hold->gO->wD->Prop} {u0:wD} {tag:Tg} {blk:Bool} {D:Nat->KD} {l:List (Option X)} {gs:Array gO} {u:wD} {t:Trace} {q:Nat->Nat} {H:Nat->Hold}
def aO.bookK(h:aO P φ u0 tag blk D l gs u t q H)(y:k<tag.started φ.n)(h6:(D k).stage<=6){d':KD}(fn:fI)(pos:String)(a:Aside φ.f.Wg u u')(E:∀e∈es,Bk φ.f.Wg e)(V:∀j e,es[j]? =some e->(Af8 e).touch?=none\/0<deafBehind (D k).deaf (es.extract 0 j))(X:WSit P φ.tw φ.f.Wg φ.f.C φ.n noL noL 0 (k+1) d'.val d'.stage d'.fuel d'.deaf g' u')(C:d'.stage<=6)(R:d'.val=(D k).val)(G:deafBehind (D k).deaf es=d'.deaf)(s:∃st sm,WgAt φ.tw φ.f.Wg u' st sm/\dG (tag.started φ.n) (upd D k d') tag st sm):
 aO P φ u0 tag blk (upd D k d') (l.set (φ.f.n0+k) none) (gs.setIfInBounds (φ.f.n0+k) g') u' (t++Af9 (φ.f.n0+k) fn pos es) q H:=by
 obtain⟨g,Z,w,J⟩:=h.kid k y;obtain⟨_,_,r⟩:=J.resolve_left λx=>by omega
 obtain⟨U,hc,hn⟩:=h.pay;obtain⟨st,sm,T,W⟩:=s;have Q:Pr (bP φ.f (tag.started φ.n) D) (rlK φ.f (tag.started φ.n) D) (φ.f.n0+k):=.inr (mP φ.f D y);have M:rlK φ.f (tag.started φ.n) D (φ.f.n0+k):=⟨k,y,rfl,h6⟩;have O:=a.block φ.f.C φ.f.CW;have N:∀A,RW φ.tw φ.f.Wg φ.f.C φ.n 0 A u u':=λA=>RW.of_wg a ⟨st,sm,T⟩ φ.f.CW;have Y:=h.stepK y (d':=d') (g':=g') (o:=none) (u':=u') (ops:=Af9 (φ.f.n0+k) fn pos es) (Hk:=H (φ.f.n0+k)) (λop L=>fV L) (Agf a.size.symm) ⟨a.tape,a.os,a.output⟩
  (λb _ v _ _=>a.block b v) (λA _ _=>N A)
  ⟨by rw[Agm,w];exact G,.inr ⟨zP,rfl,.inr ⟨C,X⟩,by rw[R];exact(cell_of_block O k).trans r.has,by rw[R];exact φ.keep _ _ _ u _ (λb v=>a.block b (h.apt.no _ b Q (.inl v)).2.1) r.val⟩⟩
  (by rw[iE,ED _ _ _ _ _ zP,EF _ _ _ _ _ zP,a.size];exact h.tr.book h.apt M w fn pos E V h.wgLt) (by rw[iE];exact h.apt) (λb v=>by rw[a.size];exact h.low _ b Q v) ⟨st,sm,T,W⟩ ⟨U,O.trans hc,hn⟩
 grind [iE]
theorem aO.put(h:aO P φ u0 tag blk D l gs u t q H)(C:k<tag.started φ.n)(W:(D k).stage=8)(G:(D k).deaf=0){v:Value}(fn:fI)(pos:String)(E:φ.val k v (H (φ.f.n0+k)).mine u)(U:Goes P false (RW φ.tw φ.f.Wg φ.f.C φ.n 0 k) Agi (AtR0 P φ.tw φ.f.Wg φ.f.C φ.n 0 (k+1) v) m g' (u.setCell ⟨φ.f.C,k,none⟩ v))(w:Has φ.f.C k v (u.setCell ⟨φ.f.C,k,none⟩ v))(r:AsideCell φ.f.C φ.n k u (u.setCell ⟨φ.f.C,k,none⟩ v)):
 aO P φ u0 tag blk (upd D k ⟨7,m,0,v⟩) (l.set (φ.f.n0+k) none) (gs.setIfInBounds (φ.f.n0+k) g') (u.setCell ⟨φ.f.C,k,none⟩ v) (t++Af9 (φ.f.n0+k) fn pos #[⟨.cell ⟨φ.f.C,k,none⟩,true,false⟩]) q H:=by
 obtain⟨g,X,J,_⟩:=h.kid k C;obtain⟨st,sm,V,T⟩:=h.mode;have O:Pr (bP φ.f (tag.started φ.n) D) (rlK φ.f (tag.started φ.n) D) (φ.f.n0+k):=.inr (mP φ.f D C);have y:bP φ.f (tag.started φ.n) D (φ.f.n0+k):=⟨k,C,rfl,zP⟩;have Q:=r.block φ.f.Wg (Ne.symm φ.f.CW);have R:=h.payLt;have M:=h.stepK C (d':=⟨7,m,0,v⟩) (g':=g') (o:=none) (u':=u.setCell ⟨φ.f.C,k,none⟩ v) (ops:=Af9 (φ.f.n0+k) fn pos #[⟨.cell ⟨φ.f.C,k,none⟩,true,false⟩]) (Hk:=H (φ.f.n0+k)) (λN a=>fV a) (Agf r.size.symm) ⟨r.tape,r.os,r.output⟩
  (λb _ _ s _=>r.block b s) (λY _ L=>RW.of_cell r L φ.f.CW)
  ⟨by rw[Agm,J,G];simp[deafBehind],.inr ⟨yW,rfl,.inl ⟨rfl,rfl,U⟩,w,φ.keep _ _ _ u _ (λb s=>r.block b (h.apt.no _ b O (.inl s)).1) E⟩⟩
  (by
   rw[iE,ED _ _ _ _ _ xL,EF _ _ _ _ _ xL,r.size];refine h.tr.app h.apt (.inr y) (λN a=>fV a) (λN a=>?_) (λN a=>?_)
   ·obtain⟨e,A,rfl⟩:=Af4 a;simp only[Af7,Ab3,Aav,or_false]at A;subst A;refine⟨R,λb s _=>.inl (.inr ⟨zP,?_⟩)⟩;simp only[Af8,Aga,oI]at s;subst s;simp
   obtain⟨e,A,rfl⟩:=Af4 a;simp only[Af7,Ab3,Aav,or_false]at A;subst A;simp[Af8]) (by rw[iE];exact h.apt) (λb s=>by rw[r.size];exact h.low _ b O s) ⟨st,sm,V.of_block Q,T.counted C zP yW⟩ (r.pay h.pay)
 rwa [iE]at M
theorem aO.release(h:aO P φ u0 tag blk D l gs u t q H)(e:k<tag.started φ.n)(M:(D k).stage=7)(s:(D k).deaf=0)(fn:fI)(pos:String)(G:Goes P false (RW φ.tw φ.f.Wg φ.f.C φ.n 0 k) Agi (AtK1 P φ.tw φ.f.Wg φ.f.C φ.n 0 (k+1)) m g' u):
 aO P φ u0 tag blk (upd D k ⟨6,m,0,(D k).val⟩) (l.set (φ.f.n0+k) none) (gs.setIfInBounds (φ.f.n0+k) g') u (t++Af9 (φ.f.n0+k) fn pos #[Agj (.releaseMerge (stA φ.f.Wg))]) q H:=by
 obtain⟨g,N,v,w⟩:=h.kid k e;obtain⟨_,_,a⟩:=w.resolve_left λx=>by omega
 obtain⟨st,sm,J,C⟩:=h.mode;have E:Pr (bP φ.f (tag.started φ.n) D) (rlK φ.f (tag.started φ.n) D) (φ.f.n0+k):=.inr (mP φ.f D e);have r:bP φ.f (tag.started φ.n) D (φ.f.n0+k):=⟨k,e,rfl,zP⟩;have L:=h.stepK e (d':=⟨6,m,0,(D k).val⟩) (g':=g') (o:=none) (u':=u) (ops:=Af9 (φ.f.n0+k) fn pos #[Agj (.releaseMerge (stA φ.f.Wg))]) (Hk:=H (φ.f.n0+k)) (λO y=>fV y) (nR _) ⟨rfl,rfl,rfl⟩
  (λ_ _ _ _ _=>rfl) (λ_ _ _=>Ago u)
  ⟨by rw[Agm,v,s];simp[deafBehind,Agj],.inr ⟨yW,rfl,.inr ⟨yW,.k1 G⟩,a.has,a.val⟩⟩
  (by rw[iE,Xj _ _ yW,Xk _ _ e yW];exact h.tr.release r (v.trans s) fn pos h.wgLt) (by rw[iE];exact h.apt) (λb A=>h.low _ b E A) ⟨st,sm,J,C.counted e zP yW⟩ h.pay
 grind [iE]
end
end
section
open Go.ConcR (KK WgAt stA smA rd wr Payload Bk bk_of_mute ofEvent_loc_mark)
section
variable [Payload] {P:pQ} {φ:Ph} {Fin:Hold->gO->wD->Prop} {u0:wD} {tag:Tg} {blk:Bool} {D:Nat->KD} {l:List (Option X)} {gs:Array gO} {u:wD} {t:Trace} {q:Nat->Nat} {H:Nat->Hold}
def EG(d' d:KD):Prop:=d'.stage<d.stage\/(d'.stage=d.stage/\d'.fuel<d.fuel)
def aO.kidMove(h:aO P φ u0 tag blk D l gs u t q H)(hb:blk=true->∃st,WgAt φ.tw φ.f.Wg u st 0)(M:k<tag.started φ.n)(h7:(D k).stage<=7)(hg:gs[φ.f.n0+k]? =some g)(Z:g.status=.running):
 ∃g' u' es d',stepG P false g u=.go g' u' es/\Aside φ.f.Wg u u'/\EG d' (D k)/\d'.stage<=7/\(blk=true->(∃st,WgAt φ.tw φ.f.Wg u' st 0)\/(Agn P g=true/\g'.status=.running))/\
  aO P φ u0 tag blk (upd D k d') (l.set (φ.f.n0+k) none) (gs.setIfInBounds (φ.f.n0+k) g') u' (t++Af9 (φ.f.n0+k) g.frame.fn g.frame.place es) q H:=by
 obtain⟨g1,ao,ax,az⟩:=h.kid k M;obtain rfl:g=g1:=by rw[hg]at ao;exact Option.some.inj ao
 obtain⟨_,_,V⟩:=az.resolve_left λx=>by omega
 obtain⟨st,sm,C,E⟩:=h.mode
 rcases V.sit with⟨e7,ed,N⟩|⟨e6,N⟩
 ·generalize ay:(D k).fuel=m at N
  rcases Agl N with A|⟨T,rfl,w⟩
  ·obtain⟨_,_,g',r,m2,Q⟩:=A u (Ago u)
   exact⟨g',u,_,⟨6,m2,0,(D k).val⟩,r,.refl _ u,.inl xL,yW,λe=>.inl (hb e),h.release M e7 ed _ _ Q⟩
  obtain⟨g',w',es,r,⟨rfl,rfl⟩,G⟩:=w u (Ago u)
  refine⟨g',w',_,⟨7,T,0,(D k).val⟩,r,.refl _ w',.inr ⟨by simp;omega,by simp;omega⟩,yW,λe=>.inl (hb e),?_⟩;have hp:Pr (bP φ.f (tag.started φ.n) D) (rlK φ.f (tag.started φ.n) D) (φ.f.n0+k):=.inr (mP φ.f D M);have aI:=h.stepK M (d':=⟨7,T,0,(D k).val⟩) (g':=g') (o:=none) (u':=w') (ops:=Af9 (φ.f.n0+k) g.frame.fn g.frame.place #[]) (Hk:=H (φ.f.n0+k)) (λop X=>fV X) (nR _) ⟨rfl,rfl,rfl⟩
   (λ_ _ _ _ _=>rfl) (λ_ _ _=>Ago w')
   ⟨by rw[Agm,ax,ed];simp[deafBehind],.inr ⟨yW,rfl,.inl ⟨rfl,rfl,G⟩,V.has,V.val⟩⟩
   (by rw[iE,ED _ _ _ _ _ xL,EF _ _ _ _ _ xL];exact h.tr.mute (λop X=>by obtain⟨e,y,_⟩:=Af4 X;simp at y) (λop X=>by obtain⟨e,y,_⟩:=Af4 X;simp at y) (λop X=>by obtain⟨e,y,_⟩:=Af4 X;simp at y))
   (by rw[iE];exact h.apt) (λb hb=>h.low _ b hp hb) ⟨st,sm,C,E.same xL⟩ h.pay
  rwa [iE]at aI
 generalize Y:(D k).stage=s at N;generalize ay:(D k).fuel=m at N;generalize ai:(D k).deaf=dd at N;have aL:=Lc (tag.started φ.n) D;have aM:=h.jn;have aP:=tag.pend_le;have aN:=φ.small;have U:∀{g':gO} {T:Nat},stepG P false g u=.go g' u #[]->WSit P φ.tw φ.f.Wg φ.f.C φ.n noL noL 0 (k+1) (D k).val s T dd g' u->T+1=m->
  ∃g' u' es d',stepG P false g u=.go g' u' es/\Aside φ.f.Wg u u'/\EG d' (D k)/\d'.stage<=7/\(blk=true->(∃st,WgAt φ.tw φ.f.Wg u' st 0)\/(Agn P g=true/\g'.status=.running))/\
   aO P φ u0 tag blk (upd D k d') (l.set (φ.f.n0+k) none) (gs.setIfInBounds (φ.f.n0+k) g') u' (t++Af9 (φ.f.n0+k) g.frame.fn g.frame.place es) q H:=by
  intro g' T r ak hm;exact⟨g',u,#[],⟨s,T,dd,(D k).val⟩,r,.refl _ u,.inr ⟨by simp[Y],by simp;omega⟩,by simp;omega,λe=>.inl (hb e),
   h.bookK M e6 _ _ (.refl _ u) yW yW ak xL rfl (by simp[deafBehind,ai]) ⟨st,sm,C,E.same (by simp[Y])⟩⟩
 have go:∀{g':gO} {u':wD} {es:Array Event} {s' T aa:Nat} {ad ac:Int},stepG P false g u=.go g' u' es->Aside φ.f.Wg u u'->WgAt φ.tw φ.f.Wg u' ad ac->(∀e∈es,Bk φ.f.Wg e)->
  (∀j e,es[j]? =some e->(Af8 e).touch?=none\/0<deafBehind dd (es.extract 0 j))->WSit P φ.tw φ.f.Wg φ.f.C φ.n noL noL 0 (k+1) (D k).val s' T aa g' u'->deafBehind dd es=aa->(s'<s\/(s'=s/\T<m))->
  dG (tag.started φ.n) (upd D k ⟨s',T,aa,(D k).val⟩) tag ad ac->(blk=true->ac=0\/(Agn P g=true/\g'.status=.running))->
  ∃g' u' es d',stepG P false g u=.go g' u' es/\Aside φ.f.Wg u u'/\EG d' (D k)/\d'.stage<=7/\(blk=true->(∃st,WgAt φ.tw φ.f.Wg u' st 0)\/(Agn P g=true/\g'.status=.running))/\
   aO P φ u0 tag blk (upd D k d') (l.set (φ.f.n0+k) none) (gs.setIfInBounds (φ.f.n0+k) g') u' (t++Af9 (φ.f.n0+k) g.frame.fn g.frame.place es) q H:=by
  intro g' u' es s' T aa ad ac r an aq ah hd ak aw hlt aA aH;refine⟨g',u',es,⟨s',T,aa,(D k).val⟩,r,an,?_,by simp;omega,λe=>(aH e).imp (λz=>⟨ad,by rw[<-z];exact aq⟩) id,
   h.bookK M e6 _ _ an ah (by rw[ai];exact hd) ak xL rfl (by rw[ai];exact aw) ⟨ad,ac,aq,aA⟩⟩
  rcases hlt with h1|⟨h1,h2⟩
  ·exact .inl xL
  exact .inr ⟨by simp;omega,by simp;omega⟩
 have au:blk=true->sm=0:=λe=>by obtain⟨aQ,aG⟩:=hb e;exact(C.unique aG).2
 cases N with
 |r0 h=>omega
 |k1 N=>
  rcases Agl N with A|⟨T,rfl,w⟩
  ·obtain⟨_,g',r,O,Q⟩:=A u (Ago u)
   exact go r (.refl _ u) C (by intro e y;simp at y;subst y;exact .inl rfl) (by intro R e y;exact .inl (by have:=Af3 y;simp at this;subst this;rfl)) (.d1 Q) rfl (.inl zP) (E.counted M zP yW) λe=>.inl (au e)
  obtain⟨g',w',es,r,⟨rfl,rfl⟩,G⟩:=w u (Ago u)
  exact U r (.k1 G) rfl
 |d1 N=>
  rcases Agl N with A|⟨T,rfl,w⟩
  ·obtain⟨_,ae⟩:=A u (Ago u)
   have av:dJ (D k)=1:=by simp[dJ,Y]
   have aJ:1<=VK (tag.started φ.n) D:=by have:=le_sumTo (f:=λx=>dJ (D x)) M;simp only[VK];omega
   have af:∀e∈#[rd (stA φ.f.Wg),wr (stA φ.f.Wg)],Bk φ.f.Wg e:=by intro e y;simp at y;rcases y with rfl|rfl<;>exact bk_cell _ _ rfl
   have ag:∀R e,(#[rd (stA φ.f.Wg),wr (stA φ.f.Wg)]:Array Event)[R]? =some e->(Af8 e).touch?=none\/0<deafBehind 1 ((#[rd (stA φ.f.Wg),wr (stA φ.f.Wg)]:Array Event).extract 0 R):=by
    intro R e y
    match R,y with
    |0,_=>exact .inr (by simp[deafBehind])
    |1,_=>exact .inr (by simp[deafBehind,rd])
    |R+2,y=>simp at y
   have ap:∀q,dJ (⟨1,q,1,(D k).val⟩:KD)=0:=λ_=>rfl;have ar:∀q,qg (tag.started φ.n) D->qg (tag.started φ.n) (upd D k ⟨1,q,1,(D k).val⟩):=λq h a ha=>by
    by_cases e:a=k
    ·subst e;rw[upd_same];simp
    rw[upd_ne D _ e];exact h a ha
   cases E with
   |opn h1 h2 h3 h4=>
    obtain⟨v,hv⟩:∃v,VK (tag.started φ.n) D+tag.pend=v+1:=⟨VK (tag.started φ.n) D+tag.pend-1,zP⟩;rw[hv]at C;have am:WgAt φ.tw φ.f.Wg u (((v:Nat)+1)*KK+((0 :Nat):Int)) 0:=by simpa using C
    obtain⟨g',r,_,hq⟩:=ae v 0 zP zP am;obtain⟨q,hq⟩:=hq zP;have aE:=AL D (⟨1,q,1,(D k).val⟩:KD) M;have aD:=ap q;have al:VK (tag.started φ.n) (upd D k ⟨1,q,1,(D k).val⟩)+tag.pend=v:=zP
    refine go r (Agc u (stA φ.f.Wg) _) (C.setSt _) af ag (.quit hq) rfl (.inl zP) ?_ λ_=>.inl rfl;have e:((v:Nat):Int)*KK+((0 :Nat):Int)=((VK (tag.started φ.n) (upd D k ⟨1,q,1,(D k).val⟩)+tag.pend:Nat):Int)*KK:=by rw[al];simp
    rw[e];exact .opn h1 (ar q h2) (λm ev=>by have:=h3 m ev;omega) (λvs ev=>by have:=h4 vs ev;omega)
   |reg h1 h2 h3=>
    obtain⟨v,hv⟩:∃v,VK (tag.started φ.n) D=v+1:=⟨VK (tag.started φ.n) D-1,zP⟩;rw[hv]at C;have am:WgAt φ.tw φ.f.Wg u (((v:Nat)+1)*KK+((1 :Nat):Int)) 0:=by simpa using C
    obtain⟨g',r,hl,hq⟩:=ae v 1 zP zP am;by_cases aF:v=0
    ·subst aF
     obtain⟨O,Q⟩:=hl ⟨rfl,rfl⟩;refine go r (Agc u (stA φ.f.Wg) _) (C.setSt _) af ag (.d2 Q) rfl (.inl zP) ?_ λ_=>.inl rfl;have J:∀a,a<tag.started φ.n->a≠k->(D a).stage=1:=λa ha e=>by
      have c0:=Xl M hv av a ha e;have:=h2 a ha;simp only[dJ]at c0
      split at c0<;>omega
     have:=dG.last (j:=tag.started φ.n) (D:=upd D k ⟨4,O,1,(D k).val⟩) (tag:=tag) k h1 M (by rw[upd_same];simp) (λa ha e=>by rw[upd_ne D _ e];exact J a ha e);rw[upd_same]at this;simpa using this
    obtain⟨q,hq⟩:=hq zP
    have aE:=AL D (⟨1,q,1,(D k).val⟩:KD) M;have aD:=ap q;have al:VK (tag.started φ.n) (upd D k ⟨1,q,1,(D k).val⟩)=v:=zP
    refine go r (Agc u (stA φ.f.Wg) _) (C.setSt _) af ag (.quit hq) rfl (.inl zP) ?_ λ_=>.inl rfl;have e:((v:Nat):Int)*KK+((1 :Nat):Int)=((VK (tag.started φ.n) (upd D k ⟨1,q,1,(D k).val⟩):Nat):Int)*KK+1:=by rw[al];simp
    rw[e];exact .reg h1 (ar q h2) zP
   |last L _ h2 h3 h4=>
    by_cases e:k=L
    ·subst e;omega
    have:=h4 k M e;omega
   |sema _ h2=>have:=h2 k M;omega
   |fin _ h2=>have:=h2 k M;omega
  obtain⟨g',w',es,r,⟨rfl,rfl⟩,G⟩:=w u (Ago u)
  exact U r (.d1 G) rfl
 |d2 N=>
  rcases Agl N with A|⟨T,rfl,w⟩
  ·obtain⟨_,hx⟩:=A u (Ago u)
   obtain⟨ab,J,rfl,rfl⟩:=E.isLast M zP;simp only[Y]at C;obtain⟨g',r,O,Q⟩:=hx (by simpa using C);refine go r (.refl _ u) C (by intro e y;simp at y;subst y;exact bk_cell _ _ rfl) (by intro R e y;match R,y with|0,_=>exact .inr (by simp[deafBehind])|R+1,y=>simp at y) (.d3 Q) rfl (.inl zP) ?_ λ_=>.inl rfl;have:=dG.last (j:=tag.started φ.n) (D:=upd D k ⟨3,O,1,(D k).val⟩) (tag:=tag) k ab M (by rw[upd_same];simp) (λa ha e=>by rw[upd_ne D _ e];exact J a ha e);rw[upd_same]at this;simpa using this
  obtain⟨g',w',es,r,⟨rfl,rfl⟩,G⟩:=w u (Ago u)
  exact U r (.d2 G) rfl
 |d3 N=>
  rcases Agl N with A|⟨T,rfl,w⟩
  ·obtain⟨_,hx⟩:=A u (Ago u)
   obtain⟨ab,J,rfl,rfl⟩:=E.isLast M zP;simp only[Y]at C;obtain⟨g',r,O,Q⟩:=hx (by simpa using C);refine go r (Agc u (stA φ.f.Wg) _) (C.setSt 0) (by intro e y;simp at y;subst y;exact bk_cell _ _ rfl) (by intro R e y;match R,y with|0,_=>exact .inr (by simp[deafBehind])|R+1,y=>simp at y) (.d4 Q) rfl (.inl zP) ?_ λ_=>.inl rfl;have:=dG.last (j:=tag.started φ.n) (D:=upd D k ⟨2,O,1,(D k).val⟩) (tag:=tag) k ab M (by rw[upd_same];simp) (λa ha e=>by rw[upd_ne D _ e];exact J a ha e);rw[upd_same]at this;simpa using this
  obtain⟨g',w',es,r,⟨rfl,rfl⟩,G⟩:=w u (Ago u)
  exact U r (.d3 G) rfl
 |d4 N=>
  rcases Agl N with A|⟨T,rfl,w⟩
  ·obtain⟨_,aB,hx⟩:=A u (Ago u)
   obtain⟨ab,J,rfl,rfl⟩:=E.isLast M zP;simp only[Y]at C;obtain⟨g',r,q,hq⟩:=hx (by simpa using C);have aj:g'.status=.running:=by
    cases q with
    |zero=>exact absurd hq.2 zE
    |succ q=>exact hq.elim (λx=>absurd x.2 zE) (λx=>x.1)
   refine go r (Agc u (smA φ.f.Wg) _) (C.setSm 1) (es:=semEvents (smA φ.f.Wg)) ?_ ?_ (.quit hq) (by simp[deafBehind,semEvents]) (.inl zP) (.sema ab λa ha=>?_) λ_=>.inr ⟨aB,aj⟩
   ·intro e y
    simp[semEvents]at y
    rcases y with rfl|rfl|rfl|rfl
    ·exact .inl rfl
    ·exact bk_cell _ _ rfl
    ·exact bk_cell _ _ rfl
    exact .inr (.inl rfl)
   ·intro R e y
    match R,y with
    |0,y=>simp[semEvents]at y;subst y;exact .inl rfl
    |1,_=>exact .inr (by simp[deafBehind,semEvents])
    |2,_=>exact .inr (by simp[deafBehind,semEvents])
    |3,y=>simp[semEvents]at y;subst y;exact .inl rfl
    |R+4,y=>simp[semEvents]at y
   by_cases e:a=k
   ·subst e;rw[upd_same]
   rw[upd_ne D _ e];exact J a ha e
  obtain⟨g',w',es,r,⟨rfl,rfl⟩,G⟩:=w u (Ago u)
  exact U r (.d4 G) rfl
 |quit N=>
  cases m with
  |zero=>rw[N.1]at Z;cases Z
  |succ q=>
   rcases N with⟨hf,_⟩|⟨_,g',es,W,w,hq⟩
   ·rw[hf]at Z;cases Z
   have ah:∀e∈es,Bk φ.f.Wg e:=λe y=>bk_of_mute (W e y)
   have aC:∀R e,es[R]? =some e->(Af8 e).touch?=none\/0<deafBehind dd (es.extract 0 R):=λR e y=>.inl (by
    rcases bk_of_mute (Wg:=φ.f.Wg) (W e (Af3 y))with h1|h1|⟨a,wr,rfl,_⟩
    ·rw[ofEvent_loc_mark h1];rfl
    ·rw[ofEvent_loc_mark h1];rfl
    have:=W _ (Af3 y);simp[Event.mute]at this)
   exact go (w u) (.refl _ u) C ah aC (.quit hq) rfl (.inr ⟨rfl,zP⟩) (E.same (by simp[Y])) λe=>.inl (au e)
end
end
section
open Go.ConcR (KK WgAt stA smA rd wr Payload Bk bk_of_mute ofEvent_loc_mark)
def K0(Wg:Nat)(e:Event):Prop:=Bk Wg e\/e=⟨.mark (.read (smA Wg)),false,true⟩\/e=⟨.mark (.write (smA Wg)),false,true⟩
def Xm{f:Fam}{g:Nat}{pos:String}(v:∀e∈es,K0 f.Wg e)(A:f.Wg<B):(∀y∈Af9 g fn pos es,OpW f B H 0 y)/\∀y∈Af9 g fn pos es,y.act≠.mark (.release (stA f.Wg)):=by
 refine⟨λy s=>?_,λy s=>?_⟩
 ·obtain⟨e,E,rfl⟩:=Af4 s
  rcases v e E with(h|h|⟨a,w,rfl,C⟩)|rfl|rfl
  ·refine⟨by simp only[ofEvent_loc_mark h];exact trivial,λb r _=>?_⟩;simp only[ofEvent_loc_mark h]at r;cases r
  ·refine⟨by simp only[ofEvent_loc_mark h];exact trivial,λb r _=>?_⟩;simp only[ofEvent_loc_mark h]at r;cases r
  ·refine⟨by show a.block<B;rw[C];exact A,λb r _=>.inr (.inr ?_)⟩
   cases w<;>(simp[Af8,Aga]at r;subst r;exact⟨⟨a,rfl,C⟩,yW,λ_=>rfl⟩)
  ·refine⟨A,λb r _=>.inr (.inr ?_)⟩;simp[Af8,Aga]at r;subst r;exact⟨⟨_,rfl,rfl⟩,yW,λ_=>rfl⟩
  refine⟨A,λb r _=>.inr (.inr ?_)⟩;simp[Af8,Aga]at r;subst r;exact⟨⟨_,rfl,rfl⟩,yW,λ_=>rfl⟩
 obtain⟨e,E,rfl⟩:=Af4 s
 rcases v e E with(h|h|⟨a,w,rfl,C⟩)|rfl|rfl
 ·simp[ofEvent_loc_mark h]
 ·simp[ofEvent_loc_mark h]
 ·simp[Af8]
 ·simp[Af8]
 simp[Af8]
section
variable [Payload] {P:pQ} {φ:Ph} {Fin:Hold->gO->wD->Prop} {u0:wD} {tag:Tg} {blk:Bool} {D:Nat->KD} {l:List (Option X)} {gs:Array gO} {u:wD} {t:Trace} {q:Nat->Nat} {H:Nat->Hold}
def aO.lib0(h:aO P φ u0 tag false D l gs u t q H)(tag':Tg)(G:tag'.started φ.n=tag.started φ.n)(E:tag.started φ.n+tag'.need<=φ.n)(fn:fI)(pos:String)(a:Aside φ.f.Wg u u')(N:∀e∈es,K0 φ.f.Wg e)(C:deafBehind tag.deaf es=tag'.deaf)(w:g'.status=.running)(r:∃st sm,WgAt φ.tw φ.f.Wg u' st sm/\dG (tag.started φ.n) D tag' st sm):
 aO P φ u0 tag' false D (l.set 0 (some (H 0,g',u'))) (gs.setIfInBounds 0 g') u' (t++Af9 0 fn pos es) q H:=by
 obtain⟨L,hc,hn⟩:=h.pay;obtain⟨st,sm,J,O⟩:=r;have M:=a.block φ.f.C φ.f.CW;have v:=Xm (f:=φ.f) (B:=u.heap.size) (H:=H 0) (g:=0) (fn:=fn) (pos:=pos) N h.wgLt;have Q:=h.step0 (tag':=tag') G E (y:=(H 0,g',u')) w (ops:=Af9 0 fn pos es) (λR s=>fV s) (Agf a.size.symm) ⟨a.tape,a.os,a.output⟩ (λb _ A _=>a.block b A) (λk _=>RW.of_wg a ⟨st,sm,J⟩ φ.f.CW)
  (by rw[Agm,h.deaf0];exact C) (by rw[iE,a.size];exact h.tr.app h.apt (.inl rfl) (λR s=>fV s) v.1 v.2) (by rw[iE];exact h.apt) (λb A=>by rw[a.size];exact h.low 0 b (.inl rfl) A) ⟨st,sm,J,O⟩ ⟨L,M.trans hc,hn⟩
 grind [iE]
omit [Payload] in
def Xn{D:Nat->KD}(h:qg j D)(r:VK j D=0):xW j D:=λi e=>by
 have s:=le_sumTo (f:=λx=>dJ (D x)) e;have h2:dJ (D i)=0:=by simp only[VK]at r;omega
 rcases h i e with a|a
 ·simp[dJ,a]at h2
 exact a
def aO.go0(h:aO P φ u0 tag false D l gs u t q H){ρ:Nat}(E:Spec P φ Fin (λA x=>aH P true (Sct P φ Fin ρ A) x) tag (H 0) g u)(h1:∀j,tag≠.go j)(h2:tag≠.acq)(fn:fI)(pos:String):
 (∃g' u' es A,stepG P true g u=.go g' u' es/\Aside φ.f.Wg u u'/\aH P true (Sct P φ Fin ρ A) (H 0,g',u')/\aO P φ u0 A false D (l.set 0 (some (H 0,g',u'))) (gs.setIfInBounds 0 g') u' (t++Af9 0 fn pos es) q H)\/
 (tag=.sem/\g.offers=none/\stepG P true g u=.go {g with status:=.blocked} u #[]/\∃st,WgAt φ.tw φ.f.Wg u st 0):=by
 obtain⟨st,sm,s,C⟩:=h.mode;have M:=h.jn;have X:=φ.small;have J:∀e∈#[Agj .disable],K0 φ.f.Wg e:=λe v=>by simp at v;subst v;exact .inl (.inl rfl)
 have en:∀e∈#[Agj .enable],K0 φ.f.Wg e:=λe v=>by simp at v;subst v;exact .inl (.inr (.inl rfl))
 have O:∀e∈#[rd (stA φ.f.Wg)],K0 φ.f.Wg e:=λe v=>by simp at v;subst v;exact .inl (bk_cell _ _ rfl)
 have R:∀e∈#[rd (stA φ.f.Wg),wr (stA φ.f.Wg)],K0 φ.f.Wg e:=λe v=>by simp at v;rcases v with rfl|rfl<;>exact .inl (bk_cell _ _ rfl)
 have y:=Lc (tag.started φ.n) D
 cases tag with
 |idle j=>
  obtain⟨g',a,r⟩:=E;have W:j<=φ.n:=by simpa[Tg.started,Tg.need]using M
  by_cases hlt:j<φ.n
  ·rw[if_pos hlt]at r;refine .inl ⟨g',u,_,.add j,a,.refl _ u,r,h.lib0 (.add j) rfl (by grind [Tg.started,Tg.need]) fn pos (.refl _ u) J (by simp[deafBehind,Agj,Tg.deaf]) r.running ⟨st,sm,s,?_⟩⟩
   cases C with
   |opn h1 h2 h3 h4=>exact .opn (tag:=.add j) trivial h2 (λm e=>by cases e) (λm e=>by cases e)
   |reg h1 _ _=>exact h1.elim
   |last L h1 _ _ _=>exact h1.elim
   |sema h1 _=>exact h1.elim
   |fin h1 _=>exact h1.elim
  rw[if_neg hlt]at r;obtain rfl:j=φ.n:=zP
  refine .inl ⟨g',u,_,.ld φ.n,a,.refl _ u,r,h.lib0 (.ld φ.n) rfl (by simp[Tg.started,Tg.need]) fn pos (.refl _ u) J (by simp[deafBehind,Agj,Tg.deaf]) r.running ⟨st,sm,s,?_⟩⟩
  cases C with
  |opn h1 h2 h3 h4=>exact .opn (tag:=.ld φ.n) trivial h2 (λm e=>by cases e;exact y) (λm e=>by cases e)
  |reg h1 _ _=>exact h1.elim
  |last L h1 _ _ _=>exact h1.elim
  |sema h1 _=>exact h1.elim
  |fin h1 _=>exact h1.elim
 |add j=>
  have W:j+1<=φ.n:=by simpa[Tg.started,Tg.need]using M
  cases C with
  |opn q1 q2 q3 q4=>
   simp only[Tg.pend,Tg.started,Agg]at s y;obtain⟨g',a,r⟩:=E (VK j D) zP s;have N:WgAt φ.tw φ.f.Wg (u.setCell (stA φ.f.Wg) (.int .u64 (((VK j D:Nat)+1)*KK))) (((VK j D+1 :Nat):Int)*KK) 0:=by
    have:=s.setSt (((VK j D:Nat)+1 :Int)*KK)
    grind
   by_cases G:VK j D=0
   ·rw[if_pos G]at r;exact .inl ⟨g',_,_,.said j,a,Agc u (stA φ.f.Wg) _,r,h.lib0 (.said j) rfl (by grind [Tg.started,Tg.need]) fn pos (Agc u (stA φ.f.Wg) _) R (by simp[deafBehind,rd,wr,Tg.deaf]) r.running ⟨_,_,N,.opn (tag:=.said j) trivial q2 (λm e=>by cases e) (λm e=>by cases e)⟩⟩
   rw[if_neg G]at r;exact .inl ⟨g',_,_,.en j,a,Agc u (stA φ.f.Wg) _,r,h.lib0 (.en j) rfl (by grind [Tg.started,Tg.need]) fn pos (Agc u (stA φ.f.Wg) _) R (by simp[deafBehind,rd,wr,Tg.deaf]) r.running ⟨_,_,N,.opn (tag:=.en j) trivial q2 (λm e=>by cases e) (λm e=>by cases e)⟩⟩
  |reg h1 _ _=>exact h1.elim
  |last L h1 _ _ _=>exact h1.elim
  |sema h1 _=>exact h1.elim
  |fin h1 _=>exact h1.elim
 |said j=>
  obtain⟨g',a,r⟩:=E;refine .inl ⟨g',u,_,.en j,a,.refl _ u,r,h.lib0 (.en j) rfl (by grind [Tg.started,Tg.need]) fn pos (.refl _ u) (λe v=>by simp at v;subst v;exact .inr (.inl rfl)) (by simp[deafBehind,Tg.deaf]) r.running ⟨st,sm,s,?_⟩⟩
  cases C with
  |opn q1 q2 q3 q4=>exact .opn (tag:=.en j) trivial q2 (λm e=>by cases e) (λm e=>by cases e)
  |reg h1 _ _=>exact h1.elim
  |last L h1 _ _ _=>exact h1.elim
  |sema h1 _=>exact h1.elim
  |fin h1 _=>exact h1.elim
 |en j=>
  obtain⟨g',a,r⟩:=E;refine .inl ⟨g',u,_,.go j,a,.refl _ u,r,h.lib0 (.go j) rfl (by grind [Tg.started,Tg.need]) fn pos (.refl _ u) en (by simp[deafBehind,Agj,Tg.deaf]) r.running ⟨st,sm,s,?_⟩⟩
  cases C with
  |opn q1 q2 q3 q4=>exact .opn (tag:=.go j) trivial q2 (λm e=>by cases e) (λm e=>by cases e)
  |reg h1 _ _=>exact h1.elim
  |last L h1 _ _ _=>exact h1.elim
  |sema h1 _=>exact h1.elim
  |fin h1 _=>exact h1.elim
 |go j=>exact absurd rfl (h1 j)
 |ld m=>
  cases C with
  |opn q1 q2 q3 q4=>
   simp only[Tg.pend,Tg.started,Agg]at s y q2 q3;obtain⟨g',a,r⟩:=E (VK φ.n D) (q3 m rfl) s;by_cases G:VK φ.n D=0
   ·rw[if_pos G]at r;refine .inl ⟨g',u,_,.wen,a,.refl _ u,r,h.lib0 (.wen) rfl (by simp[Tg.started,Tg.need]) fn pos (.refl _ u) O (by simp[deafBehind,rd,Tg.deaf]) r.running ⟨_,_,s,?_⟩⟩;rw[G];simpa[Tg.started]using dG.fin (tag:=.wen) trivial (Xn q2 G)
   rw[if_neg G]at r;exact .inl ⟨g',u,_,.cas (VK φ.n D),a,.refl _ u,r,h.lib0 (.cas (VK φ.n D)) rfl (by simp[Tg.started,Tg.need]) fn pos (.refl _ u) O (by simp[deafBehind,rd,Tg.deaf]) r.running ⟨_,_,s,.opn (tag:=.cas (VK φ.n D)) trivial q2 (λm e=>by cases e) (λm e=>by cases e;exact⟨nR _,zP⟩)⟩⟩
  |reg h1 _ _=>exact h1.elim
  |last L h1 _ _ _=>exact h1.elim
  |sema h1 _=>exact h1.elim
  |fin h1 _=>exact h1.elim
 |cas vs=>
  cases C with
  |opn q1 q2 q3 q4=>
   simp only[Tg.pend,Tg.started,Agg]at s y q2 q4;obtain⟨Q,V⟩:=q4 vs rfl;obtain⟨c1,U⟩:=E (VK φ.n D) Q s;by_cases G:VK φ.n D=vs
   ·obtain⟨g',a,r⟩:=c1 G;exact .inl ⟨g',_,_,.sw,a,Agc u (stA φ.f.Wg) _,r,h.lib0 (.sw) rfl (by simp[Tg.started,Tg.need]) fn pos (Agc u (stA φ.f.Wg) _) R (by simp[deafBehind,rd,wr,Tg.deaf]) r.running ⟨_,_,s.setSt _,.reg (tag:=.sw) trivial q2 (show 1<=VK φ.n D by omega)⟩⟩
   obtain⟨g',a,r⟩:=U zP;exact .inl ⟨g',u,_,.ld (VK φ.n D),a,.refl _ u,r,h.lib0 (.ld (VK φ.n D)) rfl (by simp[Tg.started,Tg.need]) fn pos (.refl _ u) O (by simp[deafBehind,rd,Tg.deaf]) r.running ⟨_,_,s,.opn (tag:=.ld (VK φ.n D)) trivial q2 (λm e=>by cases e;exact nR _) (λm e=>by cases e)⟩⟩
  |reg h1 _ _=>exact h1.elim
  |last L h1 _ _ _=>exact h1.elim
  |sema h1 _=>exact h1.elim
  |fin h1 _=>exact h1.elim
 |sw=>
  obtain⟨g',a,r⟩:=E;refine .inl ⟨g',u,_,.sem,a,.refl _ u,r,h.lib0 (.sem) rfl (by simp[Tg.started,Tg.need]) fn pos (.refl _ u) (λe v=>by simp at v;subst v;exact .inr (.inr rfl)) (by simp[deafBehind,Tg.deaf]) r.running ⟨st,sm,s,?_⟩⟩
  cases C with
  |opn q1 _ _ _=>exact q1.elim
  |reg q1 q2 q3=>exact .reg (tag:=.sem) trivial q2 q3
  |last L q1 q2 q3 q4=>exact .last (tag:=.sem) L trivial q2 q3 q4
  |sema _ q2=>exact .sema trivial q2
  |fin q1 _=>exact q1.elim
 |sem=>
  obtain⟨T,Z,Y⟩:=E;have w:(∃st,WgAt φ.tw φ.f.Wg u st 0)->(Tg.sem=.sem/\g.offers=none/\stepG P true g u=.go {g with status:=.blocked} u #[]/\∃st,WgAt φ.tw φ.f.Wg u st 0):=by grind
  cases C with
  |opn q1 _ _ _=>exact q1.elim
  |reg q1 q2 q3=>exact .inr (w ⟨_,s⟩)
  |last L q1 q2 q3 q4=>exact .inr (w ⟨_,s⟩)
  |sema _ q2=>
   obtain⟨g',a,r⟩:=Y s;refine .inl ⟨g',_,_,.ld2,a,Agc u (smA φ.f.Wg) _,r,h.lib0 (.ld2) rfl (by simp[Tg.started,Tg.need]) fn pos (Agc u (smA φ.f.Wg) _) (λe v=>.inl ?_) (by simp[deafBehind,semEvents,Tg.deaf]) r.running ⟨_,_,s.setSm 0,.fin (tag:=.ld2) trivial q2⟩⟩;simp[semEvents]at v
   rcases v with rfl|rfl|rfl|rfl
   ·exact .inl rfl
   ·exact bk_cell _ _ rfl
   ·exact bk_cell _ _ rfl
   exact .inr (.inl rfl)
  |fin q1 _=>exact q1.elim
 |ld2=>
  cases C with
  |opn q1 _ _ _=>exact q1.elim
  |reg q1 _ _=>exact q1.elim
  |last L q1 _ _ _=>exact q1.elim
  |sema q1 _=>exact q1.elim
  |fin _ q2=>obtain⟨g',a,r⟩:=E s;exact .inl ⟨g',u,_,.wen,a,.refl _ u,r,h.lib0 (.wen) rfl (by simp[Tg.started,Tg.need]) fn pos (.refl _ u) O (by simp[deafBehind,rd,Tg.deaf]) r.running ⟨_,_,s,.fin (tag:=.wen) trivial q2⟩⟩
 |wen=>
  cases C with
  |opn q1 _ _ _=>exact q1.elim
  |reg q1 _ _=>exact q1.elim
  |last L q1 _ _ _=>exact q1.elim
  |sema q1 _=>exact q1.elim
  |fin _ q2=>obtain⟨g',a,r⟩:=E;exact .inl ⟨g',u,_,.acq,a,.refl _ u,r,h.lib0 (.acq) rfl (by simp[Tg.started,Tg.need]) fn pos (.refl _ u) en (by simp[deafBehind,Agj,Tg.deaf]) r.running ⟨_,_,s,.fin (tag:=.acq) trivial q2⟩⟩
 |acq=>exact absurd rfl h2
end
end
section
open Go.ConcR (KK WgAt stA smA rd wr Payload Bk bk_of_mute ofEvent_loc_mark)
theorem Ld(t u:Agp)(g:Nat)(a:∀e∈u,e.act≠.mark .disable/\e.act≠.mark .enable):∀i,i<=u.size->(t++u).deaf g (t.size+i)=Deaf t g
 |0,_=>by rw[Agg,deaf_old (nR _)];rfl
 |i+1,h=>by
  have r:i<u.size:=zP
  have s:(t++u)[t.size+i]? =some u[i]:=by grind
  rw[show t.size+(i+1)=t.size+i+1 by omega,deaf_succ s,Ld t u g a i zP];have:=a u[i] (Array.getElem_mem r);unfold deafStep
  grind
theorem xX(t u:Agp)(g:Nat)(e:∀a∈u,a.act≠.mark .disable/\a.act≠.mark .enable):Deaf (t++u) g=Deaf t g:=by have:=Ld t u g e u.size (nR _);unfold Deaf;rw[Array.size_append];exact this
section
variable [Payload] {P:pQ} {φ:Ph} {Fin:Hold->gO->wD->Prop} {u0:wD} {tag:Tg} {blk:Bool} {D:Nat->KD} {l:List (Option X)} {gs:Array gO} {u:wD} {t:Trace} {q:Nat->Nat} {H:Nat->Hold}
omit [Payload] in
def Xo{pos:String}(y:∀e∈es,e.mute=true)(B Wg:Nat):(∀r∈Af9 i fn pos es,r.act.touch?=none)/\(∀r∈Af9 i fn pos es,r.act.low B)/\∀r∈Af9 i fn pos es,r.act≠.mark (.release (stA Wg)):=by
 refine⟨λr s=>?_,λr s=>?_,λr s=>?_⟩<;>
 ·obtain⟨e,w,rfl⟩:=Af4 s
  rcases bk_of_mute (Wg:=Wg) (y e w)with v|v|⟨a,wr,rfl,_⟩
  ·simp only[ofEvent_loc_mark v];first|rfl|trivial|simp
  ·simp only[ofEvent_loc_mark v];first|rfl|trivial|simp
  grind [Event.mute]
def aO.slip(h:aO P φ u0 tag blk D l gs u t q H)(C:0<i)(E:i<φ.f.n0)(fn:fI)(pos:String)(J:∀e∈es,e.mute=true)(L:QuitsD P m (deafBehind (Deaf t i) es) g'):
 aO P φ u0 tag blk D l (gs.setIfInBounds i g') u (t++Af9 i fn pos es) (upd q i m) H:=by
 have hlt:i<gs.size:=by rw[h.size];omega
 have r:∀j,j≠i->(gs.setIfInBounds i g')[j]? =gs[j]? :=by grind
 have y:∀j,j≠i->Deaf (t++Af9 i fn pos es) j=Deaf t j:=λj a=>Deaf_other t (g:=j) (g':=i) (Ne.symm a) _ (λX v=>fV v);obtain⟨W,M,N,O,Q,R⟩:=h.main;obtain⟨T,U,V⟩:=Xo (i:=i) (fn:=fn) (pos:=pos) J u.heap.size φ.f.Wg;refine⟨h.jn,by simpa using h.len,by simpa using h.size,⟨W,M,by rw[r 0 zP];exact N,O,Q,R⟩,h.blocked,λk G=>?_,λj a s=>?_,by rw[y 0 zP];exact h.deaf0,λj a=>?_,h.tr.mute T U V,h.apt,h.low,h.mode,h.pay,h.dead,h.same⟩
 ·obtain⟨g,w,h2,A⟩:=h.kid k G
  grind
 ·obtain⟨w,g,h2,A⟩:=h.leav j a s;refine⟨w,?_⟩;by_cases e:j=i
  ·subst e;exact⟨g',Ad0 hlt,by rw[upd_same,Agm];exact L⟩
  grind [upd_ne]
 have:gs.size<=j:=by simpa using a
 rw[y j zP];exact h.above j this
theorem aO.block(h:aO P φ u0 .sem false D l gs u t q H){x:X}(hx:l[0]? =some (some x))(E:x.2.1.offers=none):
 aO P φ u0 .sem true D l (gs.setIfInBounds 0 {x.2.1 with status:=.blocked}) u t q H:=by
 have a:=h.pos;have v:∀j,j≠0->(gs.setIfInBounds 0 {x.2.1 with status:=.blocked})[j]? =gs[j]? :=by grind
 obtain⟨M,r,N,G,J,L⟩:=h.main;obtain rfl:x=M:=by rw[hx]at r;simpa using r
 have C:=φ.f.pos;refine⟨h.jn,by simpa using h.len,by simpa using h.size,⟨x,r,by simp[a],G,J,L⟩,λ_=>⟨rfl,x,hx,E⟩,λk A=>?_,λj s e=>?_,h.deaf0,λj s=>h.above j (by grind),h.tr,h.apt,h.low,h.mode,h.pay,h.dead,h.same⟩
 ·obtain⟨g,w,h2,y⟩:=h.kid k A
  grind
 obtain⟨w,g,h2,y⟩:=h.leav j s e
 grind
theorem aO.acquire(h:aO P φ u0 .acq false D l gs u t q H)(fn:fI)(pos:String):xW φ.n D/\Past (bW λb=>φ.f.dead b\/b=φ.f.Wg) u.heap.size (t++Af9 0 fn pos #[Agj (.acquire (stA φ.f.Wg))]):=by
 obtain⟨st,sm,v,r⟩:=h.mode;have a:xW φ.n D:=by
  cases r with
  |opn q1 _ _ _=>exact q1.elim
  |reg q1 _ _=>exact q1.elim
  |last L q1 _ _ _=>exact q1.elim
  |sema q1 _=>exact q1.elim
  |fin _ q2=>exact q2
 exact⟨a,h.tr.join (λc ⟨k,e,_,s⟩=>by have:=a k e;omega) h.deaf0 fn pos h.wgLt⟩
theorem aO.fork(h:aO P φ u0 (.go j) false D l gs u t q H){child:gO}(hg:g'.status=.running)(hc:child.status=.running){o1 o2:MemOp}(h1:o1.g=0/\o1.act=.go (φ.f.n0+j))(h2:o2.g=φ.f.n0+j/\o2.act=.start)(v:Value):
 aO P φ u0 (.idle (j+1)) false (upd D j ⟨8,0,0,v⟩) (l.set 0 (some ((H 0).shared,g',u))++[some ((H 0).shared,child,u)]) ((gs.setIfInBounds 0 g').push child) u (t++#[o1,o2]) q (upd (upd H 0 (H 0).shared) (φ.f.n0+j) (H 0).shared):=by
 have ag:=φ.f.pos;have ac:=h.pos;have R:gs.size=φ.f.n0+j:=h.size;have Q:=h.len;have Z:j+1<=φ.n:=h.jn;have M:∀op∈#[o1,o2],op.act≠.mark .disable/\op.act≠.mark .enable:=λop ah=>by grind
 have ad:∀i,i≠0->i<φ.f.n0+j->((gs.setIfInBounds 0 g').push child)[i]? =gs[i]? :=λi a b=>by grind
 have af:∀i,i≠0->i<φ.f.n0+j->(l.set 0 (some ((H 0).shared,g',u))++[some ((H 0).shared,child,u)])[i]? =l[i]? :=λi a b=>by grind
 have hU:∀x,x≠0->x≠φ.f.n0+j->upd (upd H 0 (H 0).shared) (φ.f.n0+j) (H 0).shared x=H x:=by grind [upd_ne]
 have W:upd (upd H 0 (H 0).shared) (φ.f.n0+j) (H 0).shared 0=(H 0).shared:=by rw[upd_ne _ _ zP,upd_same]
 have J:upd (upd H 0 (H 0).shared) (φ.f.n0+j) (H 0).shared (φ.f.n0+j)=(H 0).shared:=upd_same _ _ _;have N:∀k,k<j->upd D j (⟨8,0,0,v⟩:KD) k=D k:=by grind [upd_ne]
 have O:bP φ.f (j+1) (upd D j ⟨8,0,0,v⟩)=λz=>bP φ.f j D z\/z=φ.f.n0+j:=by
  funext z
  refine propext ⟨λ⟨k,a,b,c⟩=>?_,λhz=>?_⟩
  ·by_cases e:k=j
   ·grind
   rw[N k zP]at c;exact .inl ⟨k,zP,b,c⟩
  rcases hz with⟨k,a,b,c⟩|e
  ·exact⟨k,zP,b,by rw[N k a];exact c⟩
  exact⟨j,zP,e,by rw[upd_same];simp⟩
 have aa:rlK φ.f (j+1) (upd D j ⟨8,0,0,v⟩)=rlK φ.f j D:=by
  funext z
  refine propext ⟨λ⟨k,a,b,c⟩=>?_,λ⟨k,a,b,c⟩=>⟨k,zP,b,by rw[N k a];exact c⟩⟩;by_cases e:k=j
  ·grind [upd_same]
  rw[N k zP]at c;exact⟨k,zP,b,c⟩
 have r:∀x,Pr (bP φ.f (j+1) (upd D j ⟨8,0,0,v⟩)) (rlK φ.f (j+1) (upd D j ⟨8,0,0,v⟩)) x->(upd (upd H 0 (H 0).shared) (φ.f.n0+j) (H 0).shared x=(H 0).shared)\/(x≠0/\x≠φ.f.n0+j/\Pr (bP φ.f j D) (rlK φ.f j D) x/\upd (upd H 0 (H 0).shared) (φ.f.n0+j) (H 0).shared x=H x):=λx hx=>by
  rcases(ug φ.f _ _ x).1 hx with rfl|⟨k,a,rfl⟩
  ·grind
  by_cases e:k=j
  ·grind
  exact .inr ⟨zP,zP,.inr (mP φ.f D zP),hU _ zP zP⟩
 have X:VK (j+1) (upd D j ⟨8,0,0,v⟩)=VK j D+1:=by
  show sumTo j _+dJ (upd D j (⟨8,0,0,v⟩:KD) j)=_
  rw[upd_same];have:sumTo j (λi=>dJ (upd D j (⟨8,0,0,v⟩:KD) i))=VK j D:=sumTo_congr λi T=>by rw[N i T]
  rw[this];rfl
 refine⟨by simpa[Tg.started,Tg.need]using Z,by simp[Q],by simp[R,Tg.started];omega,⟨((H 0).shared,g',u),?_,?_,W.symm,Off.refl _ _,hg⟩,(λe=>by cases e),λk hk=>?_,λi T Y=>?_,by rw[xX t _ 0 M];exact h.deaf0,λi T=>?_,?_,?_,λx b hx A=>?_,?_,h.pay,h.dead,h.same⟩
 ·grind
 ·grind
 ·have ae:k<j+1:=hk;by_cases e:k=j
  ·subst e;refine⟨child,by rw[Array.getElem?_push,if_pos (by simp[R])],?_,.inl ?_⟩
   ·rw[xX t _ _ M,upd_same];exact h.above _ zP
   rw[upd_same];refine⟨rfl,rfl,((H 0).shared,child,u),?_,rfl,J.symm,Off.refl _ _,hc⟩
   grind
  obtain⟨g,C,q2,q3⟩:=h.kid k (show k<j by omega)
  grind [xX]
 ·obtain⟨C,g,q2,q3⟩:=h.leav i T Y
  grind [xX]
 ·rw[xX t _ _ M];exact h.above i (by grind)
 ·show TrW φ.f u.heap.size _ (bP φ.f (j+1) _) (rlK φ.f (j+1) _) _
  rw[O,aa];exact h.tr.fork h.apt zP (λ⟨k,a,b,_⟩=>by have a':k<j:=a;omega) (λ⟨k,a,b,_⟩=>by have a':k<j:=a;omega) h.deaf0 (h.above _ zP) h1 h2 (λz a b=>hU z a b) (λb=>by rw[J];exact λx=>x) (λb A=>by rw[J]at A;exact A)
 ·show fZ φ.f (Pr (bP φ.f (j+1) _) (rlK φ.f (j+1) _)) _
  refine⟨λx y b hx hy ab w s=>?_,λx y b hx hy w s=>?_,λx b hx A=>?_⟩
  ·rcases r x hx with e|⟨a1,U,E,e⟩
   ·rw[e]at w;exact w
   rcases r y hy with G|⟨b1,b2,V,G⟩
   ·rw[G]at s;exact s
   rw[e]at w;rw[G]at s;exact h.apt.mm x y b E V ab w s
  ·rcases r x hx with e|⟨a1,U,E,e⟩
   ·rw[e]at w;exact w
   rw[e]at w
   rcases r y hy with G|⟨b1,b2,V,G⟩
   ·rw[G]at s
    rcases s with s|s
    ·exact h.apt.mm x 0 b E (.inl rfl) a1 w s
    exact h.apt.ms x 0 b E (.inl rfl) w s
   rw[G]at s;exact h.apt.ms x y b E V w s
  rcases r x hx with e|⟨a1,U,E,e⟩
  ·rw[e]at A;exact h.apt.no 0 b (.inl rfl) (A.resolve_left λx=>x)
  rw[e]at A;exact h.apt.no x b E A
 ·rcases r x hx with e|⟨a1,U,E,e⟩
  ·rw[e]at A;exact h.low 0 b (.inl rfl) (A.resolve_left λx=>x)
  rw[e]at A;exact h.low x b E A
 obtain⟨st,sm,hw,w⟩:=h.mode;refine⟨st,sm,hw,?_⟩
 show dG (j+1) _ _ _ _
 cases w with
 |opn C q2 q3 q4=>
  have:=dG.opn (j:=j+1) (D:=upd D j ⟨8,0,0,v⟩) (tag:=.idle (j+1)) trivial (λa ha=>by
   by_cases e:a=j
   ·grind [upd_same]
   rw[N a zP];exact q2 a (show a<j by omega)) (λm e=>by cases e) (λm e=>by cases e)
  rw[X]at this;exact this
 |reg C _ _=>exact C.elim
 |last L C _ _ _=>exact C.elim
 |sema C _=>exact C.elim
 |fin C _=>exact C.elim
end
end
end Go.Tp
