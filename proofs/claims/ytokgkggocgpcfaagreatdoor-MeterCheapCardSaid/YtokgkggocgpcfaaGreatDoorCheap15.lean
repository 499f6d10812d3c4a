/- Part; no conditions. -/
import Derived.Test.YtokgkggocgpcfaaGreatDoorCheap14
open List renaming mem_cons_of_mem->Rf,mem_cons_self->Aah,pairwise_cons->Alm,mem_singleton->Aag,length_cons->Ah9,length_nil->Aln,mem_cons->Ab3
open Option renaming getD_some->Agx
open Go.Lib renaming hid->lH,compactUpTo->Alo,keeps->Alu
open Nat renaming reduceAdd->Akz,lt_irrefl->Alp,le_trans->Agd,zero_add->Aie,le_refl->Alr
open Go.Region renaming wanted->Ag2
open Prod.mk renaming injEq->Alq,inj->Als
open Go renaming Addr->aD,Value->vL,World->wD,bodyPost_ret->Ai8,TypeId->Ahu,Code->Afz,undef->ud
open Go.Conc renaming base->Aks
open And renaming intro->Ajb
open Go.IntKind renaming i64->qi
open Go.Value renaming int->iN,slice->sL,pointer->pN
open Go.Obj renaming cells->cL
open Go.Proofs.Tryz renaming prog->tP
open Go.Proofs.Tryz
set_option maxRecDepth 100000
set_option maxHeartbeats 4000000
noncomputable section
set_option linter.all false
namespace Go.Proofs.Y
open Go.RowKit Go.Tp Go.Meter
theorem PG:∀(A B:List Int),A.Pairwise (· < ·)->B.Pairwise (· < ·)->(∀x,x∈A↔x∈B)->A=B
 |[],[],_,_,_=>rfl
 |[],b::B,_,_,h=>by have:=(h b).2 Aah;cases this
 |a::A,[],_,_,h=>by have:=(h a).1 Aah;cases this
 |a::A,b::B,hA,hB,h=>by
  have p:=Alm.1 hA;have q:=Alm.1 hB;have e:a=b:=by
   rcases Ab3.1 ((h a).1 Aah)with e|e
   ·exact e
   rcases Ab3.1 ((h b).2 Aah)with g|g
   ·exact g.symm
   have:=q.1 a e;have:=p.1 b g;omega
  subst e
  congr 1
  refine PG A B p.2 q.2 λx=>⟨λhx=>?_,λhx=>?_⟩
  ·rcases Ab3.1 ((h x).1 (Rf _ hx))with e|e
   ·subst e;have:=p.1 x hx;omega
   exact e
  rcases Ab3.1 ((h x).2 (Rf _ hx))with e|e
  ·subst e;have:=q.1 x hx;omega
  exact e
def adM{g:List Int}(D:g.Pairwise (· <= ·)):(Lib.compact g).Pairwise (· < ·)/\∀x,x∈Lib.compact g↔x∈g:=by
 have v:∀i j,i<j->j<g.length->g.toArray[i]! <=g.toArray[j]! :=λi j h p=>by rw[getElem!_pos g.toArray i xL,getElem!_pos g.toArray j (by simpa using p)];simp only[List.getElem_toArray];exact List.pairwise_iff_getElem.1 D i j zP p h
 have C:∀m,m<=g.length->(Alo g.toArray m).Pairwise (· < ·)/\(∀x,x∈Alo g.toArray m↔ ∃j,j<m/\g.toArray[j]! =x):=λm=>by
  induction m with
  |zero=>exact λ_=>⟨by simp[Alo],λx=>by simp[Alo]⟩
  |succ m ih=>
   intro G;obtain⟨A,h2⟩:=ih zP;rw[Lib.compactUpTo_succ];by_cases q:m=0\/g.toArray[m]! ≠g.toArray[m-1]!
   ·have r:Alu g.toArray m=true:=by simpa[Alu]using q
    rw[r,if_pos rfl];refine⟨List.pairwise_append.2 ⟨A,List.pairwise_singleton _ _,λx hx y E=>?_⟩,λx=>?_⟩
    ·rw[Aag.1 E];obtain⟨j,p,rfl⟩:=(h2 x).1 hx
     rcases q with q|q
     ·omega
     have F:=v (m-1) m zP zP;by_cases e:j=m-1
     ·subst e;omega
     have:=v j (m-1) zP zP;omega
    rw[List.mem_append,h2,Aag];constructor
    ·rintro(⟨j,p,e⟩|e)
     ·exact⟨j,zP,e⟩
     exact⟨m,zP,e.symm⟩
    rintro⟨j,p,e⟩;by_cases h:j=m
    ·subst h;exact .inr e.symm
    exact .inl ⟨j,zP,e⟩
   have r:Alu g.toArray m=false:=by simpa[Alu]using q
   rw[r];simp only[Bool.false_eq_true,if_false,List.append_nil];refine⟨A,λx=>(h2 x).trans ⟨λ⟨j,p,e⟩=>⟨j,zP,e⟩,λ⟨j,p,e⟩=>?_⟩⟩;by_cases h:j=m
   ·subst h;have h5:¬j=0:=λe=>q (.inl e);have h6:g.toArray[j]! =g.toArray[j-1]! :=Classical.byContradiction λe=>q (.inr e);exact⟨j-1,zP,by rw[<-h6];exact e⟩
   exact⟨j,zP,e⟩
 obtain⟨A,h2⟩:=C g.length (Alr _);refine⟨A,λx=>(h2 x).trans ⟨λ⟨j,p,e⟩=>?_,λhx=>?_⟩⟩
 ·rw[getElem!_pos g.toArray j (by simpa using p)]at e;rw[<-e];simp
 obtain⟨j,p,e⟩:=List.getElem_of_mem hx;exact⟨j,p,by rw[getElem!_pos g.toArray j (by simpa using p)];simpa using e⟩
def PI(l:List Int):(dN l).Pairwise (· < ·)/\∀x,x∈dN l↔x∈l:=by
 have g:(l.mergeSort λx y=>decide (x<=y)).Pairwise (· <= ·):=by have:=List.pairwise_mergeSort (le:=λx y:Int=>decide (x<=y)) (λa b c e h2=>by simp at*; omega) (λa b=>by simp;omega) l;exact this.imp λh=>by simpa using h
 obtain⟨e,h2⟩:=adM g;exact⟨e,λx=>(h2 x).trans (List.mergeSort_perm l _).mem_iff⟩
def adN{l L:List Int}(h1:L.Pairwise (· < ·))(h2:∀x,x∈L↔x∈l):dN l=L:=
 PG _ _ (PI l).1 h1 λx=>((PI l).2 x).trans (h2 x).symm
def qV(x:Int):List Int->List Int
 |[]=>[x]
 |y::ys=>if x<y then x::y::ys else if x=y then y::ys else y::qV x ys
def CQ(l:List Int):List Int:=l.foldr qV []
theorem Ii(x z:Int):∀l,z∈qV x l↔z=x\/z∈l
 |[]=>by simp[qV]
 |y::ys=>by
  unfold qV
  split
  ·simp
  split
  ·rename_i h;subst h;simp
  simp only[Ab3,Ii x z ys];constructor
  ·rintro(h|h|h)
   ·exact .inr (.inl h)
   ·exact .inl h
   exact .inr (.inr h)
  rintro(h|h|h)
  ·exact .inr (.inl h)
  ·exact .inl h
  exact .inr (.inr h)
theorem PK(x:Int):∀l:List Int,l.Pairwise (· < ·)->(qV x l).Pairwise (· < ·)
 |[],_=>by simp[qV]
 |y::ys,h=>by
  have g:=Alm.1 h;unfold qV
  split
  ·rename_i p;refine Alm.2 ⟨λz e=>?_,h⟩
   rcases Ab3.1 e with rfl|e
   ·exact p
   have:=g.1 z e;omega
  split
  ·exact h
  refine Alm.2 ⟨λz e=>?_,PK x ys g.2⟩
  rcases(Ii x z ys).1 e with rfl|e
  ·omega
  exact g.1 z e
def CS(l:List Int):dN l=CQ l:=by
 have e:∀l:List Int,(CQ l).Pairwise (· < ·)/\∀x,x∈CQ l↔x∈l:=λl=>by
  induction l with
  |nil=>exact⟨.nil,λx=>Iff.rfl⟩
  |cons a l ih=>
   refine⟨PK a _ ih.1,λx=>?_⟩
   show x∈qV a (CQ l)↔_
   rw[Ii,ih.2,Ab3]
 exact adN (e l).1 (e l).2
def exB:Bk:={day:=20,D:=5,U:=15,Z:=[⟨50,2,1,5⟩,⟨500,4,2,12⟩],L:=[⟨⟨#[97,110,110]⟩,2,90,90⟩,⟨⟨#[98,111,98]⟩,3,7,8⟩],C:=[⟨0,30,10,10,20,20,1⟩,⟨0,200,30,30,33,34,0⟩,⟨1,30,3,3,4,4,1⟩],P:=[]}
def lg:Pt:=⟨0,50,⟨#[49,63]⟩⟩
def CU:Pt:=⟨0,50,⟨#[50,63]⟩⟩
def exO:Bk:=bH exB lg
def exX:Bk:={exB with P:=[lg,CU]}
set_option maxRecDepth 100000
def adO:(jW exB 30 10 20,jw exB 30 10 20)=(15,0):=by decide+kernel
def adP:(jW exB 200 30 33,jw exB 200 30 33)=(12,0):=by decide+kernel
def adQ:(dY exB 30 4 0 20,jy exB 30 4 0 20)=((0,5),0):=by decide+kernel
def adR:(iM exB 30 0 9,jL exB 30 0 9)=(7,0):=by decide+kernel
def PL:kR exB 0 50=0/\nO exB 0 50=[5,17,21]:=by unfold nO;rw[CS];decide+kernel
def adS:(nU exB 1,wK exB 1)=(0,0,16):=by decide+kernel
def adT:(nS exB 0 20 50,iY exB 0 20 50)=(0,0,16):=by decide+kernel
def adU:(kU exB,pF exB)=(0,[1,0,1]):=by decide+kernel
def adV:kV exB lg=0:=by decide+kernel
def adW:(kU exO,pF exO)=(0,[1,1,1]):=by decide+kernel
def adX:(gJ exO 0 [20,50],pq exO 0 0 [20,50])=(0,[(15,15),(12,12)]):=by decide+kernel
def PN:kR exB 1 4=0/\nO exB 1 4=[12,13]:=by unfold nO;rw[CS];decide+kernel
def PO:nN exB 1=0/\rY exB 1=[7,8]:=by unfold rY;rw[CS];decide+kernel
def PS:aV exX=0/\qR exX=[0,1]:=by decide+kernel
def PU:gJ exB 0 [20,50]=0/\sK exB 0 [20,50]=(1,1):=by
 unfold sK;rw[show ([20,50]:List Int).length=0+1+1 from rfl];simp only[dw,worst,CS]
 decide+kernel
def adY(a b:Int)(w:wD):Calls tP 38 #[iN qi a,iN qi b] w λe g=>e=.returned (.agg #[iN qi a,iN qi b])/\g=w.alloc (cL #[iN qi a,iN qi b] 32):=by go_enter func38,ntmps38;go_wp2;exact Ai8 (v:=.agg #[iN qi a,iN qi b]) (by simp[results,results38,go_sem]) rfl ⟨rfl,rfl⟩
def adZ(u:wD)(o:Obj)(k:Nat)(h:k=u.heap.size):(u.alloc o).heap[k]? =some o:=last_at h
def ad1{u:wD}{o p:Obj}{k:Nat}(e:k<u.heap.size)(h:u.heap[k]? =some p):(u.alloc o).heap[k]? =some p:=(Below.heap_alloc u o _ e).trans h
def jM{w:wD}{b:Nat}{c:Array vL}{t:Ahu}{z:Nat×Nat}{k:Nat}{v:vL}(h:w.heap[b]? =some (cL c t z))(e:c[k]? =some v):w.cell? ⟨b,k,none⟩=some v:=by simp[World.cell?,h,e]
def c77(w:wD):Calls tP 77 #[] w λe p=>∃V,e=.returned (V.val exB)/\dO p V exB/\aJ p V.za/\aJ p V.la/\aJ p V.ca/\aJ p V.pa/\Below w.heap.size w p:=by
 go_enter func77,ntmps77
 go_wp2_with (go_at_call 38;refine(adY _ _ _).mono ?_;rintro e p ⟨rfl,rfl⟩)
 refine Ai8 (v:=.agg #[iN qi 20,iN qi 5,iN qi 15,sL (some ⟨w.heap.size+1,0,none⟩) 2 2,sL (some ⟨w.heap.size+1+1+1+1,0,none⟩) 2 2,sL (some ⟨w.heap.size+1+1+1+1+1+1+1+1+1+1+1,0,none⟩) 3 3,sL none 0 0]) (by simp[results,results77,go_sem]) rfl ?_;generalize q:World.alloc _ _=W;have A:Below w.heap.size w W:=by
  subst q
  repeat first
   |exact Below.refl _ _
   |refine Below.alloc ?_ (by simp<;>omega) _
 obtain⟨r,y,g⟩:W.heap[w.heap.size+1]? =some (cL #[iN qi 50,iN qi 2,iN qi 1,iN qi 5,iN qi 500,iN qi 4,iN qi 2,iN qi 12] 105 (0,0))/\
  W.heap[w.heap.size+1+1+1+1]? =some (cL #[.string ⟨#[97,110,110]⟩,iN qi 2,iN qi 90,iN qi 90,.string ⟨#[98,111,98]⟩,iN qi 3,iN qi 7,iN qi 8] 81 (0,0))/\
  W.heap[w.heap.size+1+1+1+1+1+1+1+1+1+1+1]? =some (cL #[iN qi 0,iN qi 30,iN qi 10,iN qi 10,iN qi 20,iN qi 20,iN qi 1,iN qi 0,iN qi 200,iN qi 30,iN qi 30,iN qi 33,iN qi 34,iN qi 0,iN qi 1,iN qi 30,iN qi 3,iN qi 3,iN qi 4,iN qi 4,iN qi 1] 62 (0,0)):=by
  subst q;refine⟨?_,?_,?_⟩<;>((repeat (refine ad1 (by first|(simp;done)|(simp;omega)) ?_));exact adZ _ _ _ (by first|rfl|(simp;done)|(simp;omega)))
 refine⟨⟨some ⟨w.heap.size+1,0,none⟩,some ⟨w.heap.size+1+1+1+1,0,none⟩,some ⟨w.heap.size+1+1+1+1+1+1+1+1+1+1+1,0,none⟩,none,2,2,3,0⟩,rfl,⟨⟨λi x h=>?_,λi x h=>?_,λi x h=>?_,λi x h=>?_⟩,zE,zE,zE,zE,⟨by simp[exB],yW⟩,zE⟩,λa e=>?_,λa e=>?_,λa e=>?_,(λa e=>by cases e),A⟩
 ·match i,h with
  |0,h|1,h=>cases h;exact⟨_,_,rfl,jM r rfl,jM r rfl,jM r rfl,jM r rfl⟩
 ·match i,h with
  |0,h|1,h=>cases h;exact⟨_,_,rfl,jM y rfl,jM y rfl,jM y rfl,jM y rfl⟩
 ·match i,h with
  |0,h|1,h|2,h=>cases h;exact⟨_,_,rfl,jM g rfl,jM g rfl,jM g rfl,jM g rfl,jM g rfl,jM g rfl,jM g rfl⟩
 ·simp[exB]at h
 ·cases e;exact⟨_,_,_,r⟩
 ·cases e;exact⟨_,_,_,y⟩
 cases e;exact⟨_,_,_,g⟩
end Go.Proofs.Y
namespace Go.Tp
open Go.Conc Go.ConcN Go.RowKit
variable {Ks:wD->Prop} {f:FuncId} {fn:Func} {ats:Array TypeId}
section
variable {P:Program} [Team P] {b:Frame} {R:vL->wD->Prop} {a:Act} {w:wD} {it k:List Item} {ops:Array Oper} {i:Nat} {rest:List Nat} {o:Oper}
variable {w0:wD} {Ri:vL->wD->Prop} {dn:Option Nat}
structure OpG (P:Program) [Team P] (ops:Array Oper) (i:Nat) (o:Oper):Prop where
 at_:ops[i]? =some o
 sim:opS P (tF P) (tG P) o=true
 ok:eY true o=true
 nocall:∀c x,o.op=.call c->c.callee≠.value x
def ad2(v:vL)(q:OpG P ops i o)(G:Ag2 o (yielded ops a.tmps)=true)(F:b.kind≠.early)(p:o.dst=dn)(hr:∀g d,(execOp a.eval o).run P (w.tp g d noJ)=.ok (.value v) (w.tp g d noJ))(D:Ks w)(C:Kp w0 w)(E:Ri v w)(K:∀v r,Kp w0 r->Ks r->(dn=none->v=ud)->Ri v r->GLb P b (.inRegion ops rest::k) R (a.put dn v) r)(hn:dn=none->v=ud):GLb P b (.inRegion ops (i::rest)::k) R a w:=
 yB (S:=λx y=>x=v/\∃g d,y=w.tp g d noJ) q.at_ q.sim q.ok q.nocall G F (λg d=>⟨_,_,hr g d,rfl,g,d,rfl⟩) λx y ⟨e,g,d,A⟩=>by subst e A;rw[p];exact wo (K _ w C D hn E)
def okG(h:ops[i]? =some o)(h2:opS P (tF P) (tG P) o=true:=by kernel_rfl)(h3:eY true o=true:=by rfl)(h4:∀c x,o.op=.call c->c.callee≠.value x:=by intro c x h e;cases h<;>cases e):OpG P ops i o:=⟨h,h2,h3,h4⟩
def uQ(v:vL)(D:OpG P ops i o)(E:Region.wanted o (yielded ops a.tmps)=true)(hr:∀q d,(execOp a.eval o).run P (w.tp q d noJ)=.ok (.value v) (w.tp q d noJ))(A:Ri v w)(r:Kp w0 w)(K:∀v p,Kp w0 p->Ks p->(dn=none->v=ud)->Ri v p->GLb P b (.inRegion ops rest::k) R (a.put dn v) p)(g:o.dst=dn:=by exact rfl)(C:b.kind≠.early:=by intro e;cases e)(y:Ks w:=by first|exact λ_ _ _ _ h=>h|exact⟨λ_ _ _ _ _ h=>h,λ_ _ h=>h⟩)(hn:dn=none->v=ud:=by intro e;cases e):GLb P b (.inRegion ops (i::rest)::k) R a w:=ad2 v D E C g hr y r A K hn
def uS(v:vL)(x:Obj)(q:OpG P ops i o)(H:Ag2 o (yielded ops a.tmps)=true)(G:b.kind≠.early)(p:o.dst=dn)(hr:∀g d,(execOp a.eval o).run P (w.tp g d noJ)=.ok (.value v) ((w.tp g d noJ).alloc x))(E:∀u,Kp w u->Ks u)(D:Kp w0 w)(F:Ri v (w.alloc x))(K:∀v r,Kp w0 r->Ks r->(dn=none->v=ud)->Ri v r->GLb P b (.inRegion ops rest::k) R (a.put dn v) r)(hn:dn=none->v=ud):GLb P b (.inRegion ops (i::rest)::k) R a w:=
 yB (S:=λy A=>y=v/\∃g d,A=(w.alloc x).tp g d noJ) q.at_ q.sim q.ok q.nocall H G (λg d=>⟨_,_,hr g d,rfl,g,d,qx _ _ _ _⟩) λy A ⟨e,g,d,C⟩=>by subst e C;rw[p];exact wo (K _ _ (D.trans (Kp.alloc _ _)) (E _ (Kp.alloc _ _)) hn F)
def uT{t:Tmp}{args:Array Operand}{ats:Array Ahu}{d:Nat}(ho:ops[i]? =some o)(F:o.op=.call {callee:=.value (.func f),args,argTypes:=ats})(hw:Ag2 o (yielded ops a.tmps)=true)(X:tF P f=true)(D:P.funcs[f]? =some fn)(y:fn.results=#[.tmp t])(hk:b.kind≠.early)(q:o.dst=some d)(ha:args.all (aU (tF P) (tG P))=true)(Z:∀v w A d,Ri v (w.tp A d noJ)->Ri v w)(hc:∀A,Calls P f (args.map a.eval) (w.tp A 0 noJ) λe g=>∃v,e=.returned v/\Kp w g/\Ri v g)(Y:∀u,Kp w u->Ks u)(W:Kp w0 w)(K:∀v C,Kp w0 C->Ks C->(some d=none->v=ud)->Ri v C->GLb P b (.inRegion ops rest::k) R (a.put (some d) v) C):GLb P b (.inRegion ops (i::rest)::k) R a w:=by
 refine yx λS Rr M u cs L x2 x3 x4 x5 T=>?_;have I:Ag2 o (yielded ops M.tmps)=true:=by rw[<-Am (ops:=ops) L];exact hw
 refine EW (Gl:=tG P) (S:=S) (Q:=λv g=>Kp w g/\Ri v g) Team.good Team.fc D y X ho I hk F x5 T x3 x4 (mO (qw L T) ha) (λv g A d h=>⟨Kp.tp_r.1 h.1,Z v g A d h.2⟩) hc λU v v' O u1 r aa hv G H J p ab=>.stop rfl λu2 E=>?_;exact⟨U,a.put o.dst v,M.put o.dst v',_,O,rfl,rfl,oV (L.mono r) hv o.dst,by rw[put_defers];exact x2,H,J.off p E,p,r,by rw[q];exact K v O (W.trans G.1) (Y _ G.1) (λe=>by cases e) G.2⟩
def PV{args:Array Operand}{ats:Array Ahu}{Q:vL->wD->Prop}(ho:ops[i]? =some o)(D:o.op=.call {callee:=.value (.func f),args,argTypes:=ats})(hw:Ag2 o (yielded ops a.tmps)=true)(C:P.funcs[f]? =some fn)(e:(fn.name== "runtime.NumGoroutine")=false)(y:fn.body.isNone=false)(hk:b.kind≠.early)(ha:args.all (aU (tF P) (tG P))=true)(hc:bT P f (args.map a.eval) w Q)(h:∀v w1,Q v w1->GLb P b (.inRegion ops rest::k) R (a.put o.dst v) w1):GLb P b (.inRegion ops (i::rest)::k) R a w:=by
 intro S r Rr g u gs sl t q H x1 x2 x3 x4 h0 hL hP;have hE:=qw (F:=tF P) (Gl:=tG P) x1 x4.gl;have X:Ag2 o (yielded ops g.tmps)=true:=by rw[<-Am (ops:=ops) x1];exact hw
 have T:∀E,stepG P true (G (b.at g (.inRegion ops (i::rest)::k)) H) E=.go (G (Frame.enter P f (args.map g.eval) .normal) (b.at g (.inRegion ops (i::rest)::k)::H)) E #[]:=λE=>by
  rw[stepG_enter ho X hk (run_call_body D C e y)];have:listed P b.fn g o E=#[]:=by unfold listed;rw[events_call_body D C e y];exact seen_none P _
  rw[this]
 obtain⟨N1,I,u1,Y,t1,q1,r1,e1,m1,s1,K,M⟩:=beside_step rfl rfl T x4 h0 hL hP;refine GN (gY.ahead r1 (.refl _) s1 (Cj (hc S r Rr _ u1 I Y t1 q1 _ (mO hE ha) x3 m1 e1 K M) λv v' w' R2 hq U hv W p u2 J Z t2 q2 m2 g2 L O=>?_));have A:(b.at g (.inRegion ops (i::rest)::k)).finish v'=b.at (g.put o.dst v') (.inRegion ops rest::k):=by rw[Frame.finish_at,ho];rfl
 rw[A]at g2;exact GR (h v w' hq S p R2 _ u2 J Z t2 q2 H (oV (x1.mono U) hv o.dst) (by rw[put_defers];exact x2) W m2 g2 L O)
def Ij{args:Array Operand}{ats:Array Ahu}{d:Nat}(I:ops[i]? =some o)(A:o.op=.call {callee:=.value (.func f),args,argTypes:=ats})(J:Ag2 o (yielded ops a.tmps)=true)(y:P.funcs[f]? =some fn)(g:(fn.name== "runtime.NumGoroutine")=false)(r:fn.body.isNone=false)(H:b.kind≠.early)(p:o.dst=some d)(G:args.all (aU (tF P) (tG P))=true)(hc:bT P f (args.map a.eval) w λv D=>Kp w D/\Ri v D)(F:∀u,Kp w u->Ks u)(E:Kp w0 w)(K:∀v q,Kp w0 q->Ks q->(some d=none->v=ud)->Ri v q->GLb P b (.inRegion ops rest::k) R (a.put (some d) v) q):GLb P b (.inRegion ops (i::rest)::k) R a w:=
 PV I A J y g r H G hc λv L ⟨C,h2⟩=>by rw[p];exact K v L (E.trans C) (F _ C) (λe=>by cases e) h2
end
end Go.Tp
namespace Go.Proofs.Y
open Go.RowKit Go.Tp Go.Meter Go.Conc Go.ConcN
variable {q1 q2 q3 q4 q5 q6 q7:Option aD} {p1 c1 c2 p2 c3 p3 p4 p5 p6 b p7:Nat} {w u:wD} {B:Bk} {V:BkV} {a:Act}
def Ik(x y:Int)(w:wD):bT tP 38 #[iN qi x,iN qi y] w λv g=>Kp w g/\v=.agg #[iN qi x,iN qi y]:=by refine iU (f:=38) (fn:=f38) (x:=(f38.body).getD .skip) rfl rfl (o7 (fn:=f38) (Q:=λv g=>Kp w g/\v=.agg #[iN qi x,iN qi y]) rfl xD xN rfl xD xD (λv g p d h=>⟨Kp.tp_r.1 h.1,h.2⟩) (λp=>?_) λ_ _ h=>h);have q:=lH (Kp.tp_r.2 (Kp.refl w):Kp w (w.tp p 0 noJ));generalize w.tp p 0 noJ=W at*;simp only[f38,Agx];go_wp2;exact Ai8 (v:=.agg #[iN qi x,iN qi y]) (by simp[results,go_sem]) rfl ⟨_,rfl,q.out.trans (Kp.alloc _ _),rfl⟩
section
variable {f:FuncId} {a:Act} {w:wD} {k:List Item} {ops:Array Oper} {i j d s N:Nat} {rest:List Nat} {o o2:Oper} {l:List (Nat×vL)} {R:vL->wD->Prop}
def oz(hc:Cells w (aB b V B))(r:Sl a N l)(h:∀q,Sl q N ((d,V.val B)::l)->GLb tP (Go.Conc.base f) (.inRegion ops rest::k) R q w)(A:eU tP ops i o:=by exact okA rfl)(g:o.dst=some d:=by rfl)(v:o.op=.load 27 (.tmp s):=by rfl)(y:d<N:=by decide)(hn:(l.map (·.1)).contains d=false:=by rfl)(C:a.tmps[s]?.getD ud=pN (some ⟨b,0,none⟩):=by have h:=(‹Sl _ _ _›).2.2;simp only[SlA]at h;simp only[h]):GLb tP (Go.Conc.base f) (.inRegion ops (i::rest)::k) R a w:=
 fO (V.val B) A g xN (by rw[r.1];exact y) (λL F=>by obtain⟨D,q1,q2,q3,q4,q5,q6,-⟩:=hc;obtain⟨G,I,K,J,E,H⟩:=o;simp only at v;subst v;simp[go_sem,aT,C,D,q1,q2,q3,q4,q5,q6]) λq p=>h q (r.put p hn)
def lq{g:FuncId}{fn:Func}{args:Array vL}{y:Array Operand}{ats:Array TypeId}{E:vL->wD->Prop}(p:bT tP g args w E)(G:Sl a N l)(h:∀F v H,E v H->Sl F N ((d,v)::l)->GLb tP (Go.Conc.base f) (.inRegion ops rest::k) R F H)(L:ops[i]? =some o:=by rfl)(D:o.op=.call {callee:=.value (.func g),args:=y,argTypes:=ats}:=by rfl)(K:o.guard=none:=by rfl)(C:tP.funcs[g]? =some fn:=by rfl)(q:(fn.name== "runtime.NumGoroutine")=false:=by rfl)(A:fn.body.isNone=false:=by rfl)(r:o.dst=some d:=by rfl)(I:y.all (aU (tF tP) (tG tP))=true:=by kernel_rfl)(J:d<N:=by decide)(hn:(l.map (·.1)).contains d=false:=by rfl)(he:y.map a.eval=args:=by have h:=(‹Sl _ _ _›).2.2;simp only[SlA]at h;simp[Act.eval,h]):GLb tP (Go.Conc.base f) (.inRegion ops (i::rest)::k) R a w:=
 NM L D K C q A xN I (by rw[he];exact p) λv O M=>by rw[r];exact h _ v O M (G.put (dU a v (by rw[G.1];exact J)) hn)
def PW(x y:Int)(I:Sl a N l)(h:∀r b H,Kp w H->Cells H [(⟨b,0,none⟩,iN qi x),(⟨b,1,none⟩,iN qi y)]->Sl r N ((d,pN (some ⟨b,0,none⟩))::l)->GLb tP (Go.Conc.base f) (.inRegion ops rest::k) R r H)(S:eU tP ops i o:=by exact okA rfl)(F:eU tP ops j o2:=by exact okA rfl)(v:o.dst=some d:=by rfl)(g:o2.dst=none:=by rfl)(K:o.op=.alloc 32:=by rfl)(A:o2.op=.store 32 (.tmp d) (.tmp s):=by rfl)(Q:d<N:=by decide)(hn:(l.map (·.1)).contains d=false:=by rfl)(E:s≠d:=by decide)(T:a.tmps[s]?.getD ud=.agg #[iN qi x,iN qi y]:=by have h:=(‹Sl _ _ _›).2.2;simp only[SlA]at h;simp only[h]):
 GLb tP (Go.Conc.base f) (.inRegion ops (i::j::rest)::k) R a w:=by
 have J:(Go.Conc.base f).kind≠.early:=by intro e;cases e
 refine qA (d:=d) (pN (some ⟨w.heap.size,0,none⟩)) (cL #[iN qi 0,iN qi 0] 32) S v J (by rw[I.1];exact Q) (λC q=>?_) λr p=>?_
 ·have G:(w.tp C q noJ).heap.size=w.heap.size:=by rw[aP]
  obtain⟨M,W,Y,X,L,O⟩:=o;simp only at K;subst K;rw[<-G];generalize w.tp C q noJ=w1;go_simp
 have U:r.tmps[s]?.getD ud=.agg #[iN qi x,iN qi y]:=(p.other s E).trans T;have D:=p.same;refine oW (w1:=w.alloc (cL #[iN qi x,iN qi y] 32)) F g J (λC q=>⟨q,?_⟩) ?_
 ·have G:(w.tp C q noJ).heap.size=w.heap.size:=by rw[aP]
  obtain⟨M,W,Y,X,L,O⟩:=o2;simp only at A;subst A;rw[<-qx,<-qx];rw[<-G]at D;generalize w.tp C q noJ=w1 at*;go_simp
 refine h r w.heap.size _ (Kp.alloc _ _) ?_ (I.put p hn);have:=aX (last_at (w:=w) (o:=.cells #[iN qi x,iN qi y] 32) rfl);exact⟨(this 0).1,(this 1).1,trivial⟩
def ad3(I:Sl a N l)(h:∀A b G,Kp w G->Cells G (aB b V B)->Sl A N ((d,pN (some ⟨b,0,none⟩))::l)->GLb tP (Go.Conc.base f) (.inRegion ops rest::k) R A G)(S:eU tP ops i o:=by exact okA rfl)(E:eU tP ops j o2:=by exact okA rfl)(r:o.dst=some d:=by rfl)(g:o2.dst=none:=by rfl)(K:o.op=.alloc 27:=by rfl)(v:o2.op=.store 27 (.tmp d) (.tmp s):=by rfl)(Q:d<N:=by decide)(hn:(l.map (·.1)).contains d=false:=by rfl)(D:s≠d:=by decide)(T:a.tmps[s]?.getD ud=V.val B:=by have h:=(‹Sl _ _ _›).2.2;simp only[SlA]at h;simp only[h]):
 GLb tP (Go.Conc.base f) (.inRegion ops (i::j::rest)::k) R a w:=by
 have J:(Go.Conc.base f).kind≠.early:=by intro e;cases e
 obtain⟨za,la,H,pa,zc,lc,cc,pc⟩:=V;refine qA (d:=d) (pN (some ⟨w.heap.size,0,none⟩)) (cL #[iN qi 0,iN qi 0,iN qi 0,sL none 0 0,sL none 0 0,sL none 0 0,sL none 0 0] 27) S r J (by rw[I.1];exact Q) (λy q=>?_) λA p=>?_
 ·have F:(w.tp y q noJ).heap.size=w.heap.size:=by rw[aP]
  obtain⟨M,W,Y,X,L,O⟩:=o;simp only at K;subst K;rw[<-F];generalize w.tp y q noJ=w1;go_simp
 have U:=(p.other s D).trans T;have C:=p.same;refine oW (w1:=w.alloc (cL #[iN qi B.day,iN qi B.D,iN qi B.U,sL za B.Z.length zc,sL la B.L.length lc,sL H B.C.length cc,sL pa B.P.length pc] 27)) E g J (λy q=>⟨q,?_⟩) ?_
 ·have F:(w.tp y q noJ).heap.size=w.heap.size:=by rw[aP]
  obtain⟨M,W,Y,X,L,O⟩:=o2;simp only at v;subst v;rw[<-qx,<-qx];rw[<-F]at C;generalize w.tp y q noJ=w1 at*;go_simp
 refine h A w.heap.size _ (Kp.alloc _ _) ?_ (I.put p hn);have:=aX (last_at (w:=w) (o:=.cells #[iN qi B.day,iN qi B.D,iN qi B.U,sL za B.Z.length zc,sL la B.L.length lc,sL H B.C.length cc,sL pa B.P.length pc] 27) rfl);exact⟨(this 0).1,(this 1).1,(this 2).1,(this 3).1,(this 4).1,(this 5).1,(this 6).1,trivial⟩
end
abbrev qW(b1:Nat):List (Nat×vL):=[(10,iN qi 0),(9,iN qi 7),(8,iN qi 0),(7,iN qi 5),(6,iN qi 0),(5,iN qi 0),(4,iN qi 12),(3,iN qi 0),(2,iN qi 15),(1,pN (some ⟨b1,0,none⟩))]
abbrev uU(b1:Nat):List (Nat×vL):=[(3,iN qi 0),(2,iN qi 15),(1,pN (some ⟨b1,0,none⟩))]
abbrev Il(b1:Nat):List (Nat×vL):=((8,iN qi 0)::(7,iN qi 5)::(6,iN qi 0)::(5,iN qi 0)::(4,iN qi 12)::uU b1)
def dV:Afz:=(f18.body).getD .skip
def lv1:Afz:=sqR dV
def lv2:Afz:=sqR lv1
def lv3:Afz:=sqR lv2
def lv4:Afz:=sqR lv3
def lv5:Afz:=sqR lv4
def lv6:Afz:=sqR lv5
def lv7:Afz:=sqR lv6
def lv8:Afz:=sqR lv7
def lv9:Afz:=sqR lv8
def jA:Afz:=sqR lv9
def jO:Afz:=sqR jA
def jY:Afz:=sqR jO
def lu:Afz:=sqR jY
def lZ:Afz:=sqR lu
def oD:Afz:=sqR lZ
def pJ:Afz:=sqR oD
def qX:Afz:=sqR pJ
def sN:Afz:=sqR qX
def uV:Afz:=sqR sN
def sO:Afz:=sqR uV
def Io:Afz:=sqR sO
def wQ{c:Afz}{R:vL->wD->Prop}{k:List Item}{l l':List (Nat×vL)}(X:wD->Prop)(C:∀u y d,X (u.tp y d noJ)->X u)(A:Sl a 253 l)(hc:fE tP (tF tP) (tG tP) c=true)(v:codeOk true c=true)(h:∀W,Kp w W->c.wp tP (λe p g=>e=.normal/\p.defers=[]/\Sl p 253 l'/\Kp w g/\X g) a W)(K:∀p g,Sl p 253 l'->Kp w g->X g->GLb tP (Aks 18) k R p g):GLb tP (Aks 18) (.code c::k) R a w:=
 fP (S:=λa g=>Sl a 253 l'/\Kp w g/\X g) ⟨f18,rfl,xD⟩ xN A.2.1 hc v (λa g y d ⟨q,h2,r⟩=>⟨q,Kp.tp_r.1 h2,C _ _ _ r⟩) (λy=>h _ (Kp.tp_r.2 (.refl _))) λp g _ ⟨q,h2,r⟩=>K p g q h2 r
structure LvS (w:wD) (b:Nat) (V:BkV) (B:Bk):Prop where
 cells:Cells w (aB b V B)
 gbk:GBk w V B
theorem LvS.kp(h:LvS w b V B)(k:Kp w u):LvS u b V B:=⟨k.cells h.cells,h.gbk.kp k⟩
theorem LvS.tp{τ:Nat->Question->Nat}{d:Nat}(h:LvS (w.tp τ d noJ) b V B):LvS w b V B:=h.kp (Kp.tp_l.2 (.refl _))
section
variable {R:vL->wD->Prop} {k:List Item} {a:Act} {w:wD} {b1:Nat} {V:BkV} {B:Bk}
def ad4(K:∀e g,Sl e 253 []->Kp w g->GLb tP (Aks 18) k R e g)(p:Sl a 253 []):GLb tP (Aks 18) (.code (sqL dV)::k) R a w:=by refine wQ (l':=[]) (λ_=>True) (λ_ _ _ _=>trivial) p xD xD (λW q=>?_) λe g v h2 _=>K e g v h2;have r:=lH q;obtain⟨t,rfl,-⟩:=p.lit;clear q;simp only[sqL,dV,f18,Agx,up,Akz];go_wp2;exact⟨⟨rfl,rfl,trivial⟩,r.out⟩
def ad5(C:dP w)(g:tP.globals.size<=w.heap.size)(K:∀v p b1 V,Sl v 253 [(1,pN (some ⟨b1,0,none⟩))]->Kp w p->LvS p b1 V exB->GLb tP (Aks 18) k R v p)(I:Sl a 253 []):GLb tP (Aks 18) (.code (sqL lv1)::k) R a w:=by
 have F:tP.inits.idxOf? 18=none:=xD
 refine fP (S:=λv p=>∃(b1:Nat) (V:BkV),Sl v 253 [(1,pN (some ⟨b1,0,none⟩))]/\Kp w p/\LvS p b1 V exB) ⟨f18,rfl,F⟩ xN I.2.1 xD xD (λa p J d ⟨b1,V,q,h2,r⟩=>⟨b1,V,q,Kp.tp_r.1 h2,r.tp⟩) (λJ=>?_) λv p _ ⟨b1,V,q,h2,r⟩=>K v p b1 V q h2 r;obtain⟨W,E⟩:∃W,W=w.tp J 0 noJ:=⟨_,rfl⟩;have y:Kp w W:=by rw[E];exact Kp.tp_r.2 (.refl _)
 rw[<-E];clear E;have L:=lH (Ajb y (Ajb (C.kp y) (Agd g y.size)));obtain⟨t,rfl,-⟩:=I.lit;have D:=lH (c77 W);clear y C g;simp only[lv1,sqL,sqR,dV,f18,Agx,up,Akz]
 go_wp2_with (go_at_call 77;refine D.out.mono ?_;rintro e u ⟨V,rfl,q,h2,r,h4,h5,A⟩;have Hb:=lH (Ajb q (Ajb h2 (Ajb r (Ajb h4 (Ajb h5 A)))));clear q h2 r h4 h5 A;obtain⟨za,la,H,pa,zc,lc,cc,pc⟩:=V)
 obtain⟨y,C,g⟩:=L.out;obtain⟨q,h2,r,h4,h5,A⟩:=Hb.out;have G:=Kp.of_below A;refine⟨_,⟨rfl,rfl,rfl,trivial⟩,(y.trans G).trans (Kp.alloc _ _),⟨za,la,H,pa,zc,lc,cc,pc⟩,?_,GBk.kp (V:=⟨za,la,H,pa,zc,lc,cc,pc⟩) ⟨q,C.kp G,h2,r,h4,h5,Agd g G.size⟩ (Kp.alloc _ _)⟩;simp only[aB,Cells,and_true];go_simp
def ad6(y:jW B 30 10 20=15)(A:jw B 30 10 20=0)(C:LvS w b1 V B)(D:Sl a 253 [(1,pN (some ⟨b1,0,none⟩))])(K:∀p q,Sl p 253 (uU b1)->Kp w q->GLb tP (Aks 18) k R p q):GLb tP (Aks 18) (.code (sqL lv2)::k) R a w:=by
 refine wQ (l':=(uU b1)) (λ_=>True) (λ_ _ _ _=>trivial) D xD xD (λW v=>?_) λp q r h2 _=>K p q r h2;have g:=C.kp v;have hc:=g.cells;have H:=c44 V B 30 10 20 W g.gbk.bk g.gbk.var;rw[y,A]at H;replace H:=lH H;have F:=lH v;clear v g C y A;obtain⟨za,la,G,pa,zc,lc,cc,pc⟩:=V;obtain⟨I,q1,q2,q3,q4,q5,q6,-⟩:=hc;obtain⟨t,rfl,r,-⟩:=D.lit;simp only[lv2,lv1,sqL,sqR,dV,f18,Agx,up,Akz,r]
 go_wp2_with (go_at_call 44;refine H.out.mono ?_;rintro e u ⟨rfl,E⟩;have Hb:=lH E;clear E)
 exact⟨xT,F.out.trans (Kp.of_below Hb.out)⟩
def ad7(y:jW B 200 30 33=12)(A:jw B 200 30 33=0)(C:LvS w b1 V B)(D:Sl a 253 (uU b1))(K:∀p q,Sl p 253 ((5,iN qi 0)::(4,iN qi 12)::uU b1)->Kp w q->GLb tP (Aks 18) k R p q):GLb tP (Aks 18) (.code (sqL lv3)::k) R a w:=by
 refine wQ (l':=((5,.int qi 0)::(4,.int qi 12)::uU b1)) (λ_=>True) (λ_ _ _ _=>trivial) D xD xD (λW v=>?_) λp q r h2 _=>K p q r h2;have g:=C.kp v;have hc:=g.cells;have H:=c44 V B 200 30 33 W g.gbk.bk g.gbk.var;rw[y,A]at H;replace H:=lH H;have F:=lH v;clear v g C y A;obtain⟨za,la,I,pa,zc,lc,cc,pc⟩:=V;obtain⟨J,q1,q2,q3,q4,q5,q6,-⟩:=hc;obtain⟨t,rfl,G,h2,r,-⟩:=D.lit;simp only[lv3,lv2,lv1,sqL,sqR,dV,f18,Agx,up,Akz,G,h2,r]
 go_wp2_with (go_at_call 44;refine H.out.mono ?_;rintro e u ⟨rfl,E⟩;have Hb:=lH E;clear E)
 exact⟨xT,F.out.trans (Kp.of_below Hb.out)⟩
def ad8(y:dY B 30 4 0 20=(0,5))(A:jy B 30 4 0 20=0)(C:LvS w b1 V B)(D:Sl a 253 ((5,iN qi 0)::(4,iN qi 12)::uU b1))(K:∀p q,Sl p 253 (Il b1)->Kp w q->GLb tP (Aks 18) k R p q):GLb tP (Aks 18) (.code (sqL lv4)::k) R a w:=by
 refine wQ (l':=(Il b1)) (λ_=>True) (λ_ _ _ _=>trivial) D xD xD (λW v=>?_) λp q r h2 _=>K p q r h2;have g:=C.kp v;have hc:=g.cells;have H:=c41 V B 30 4 0 20 W g.gbk.bk g.gbk.var;rw[y,A]at H;replace H:=lH H;have F:=lH v;clear v g C y A;obtain⟨za,la,I,pa,zc,lc,cc,pc⟩:=V;obtain⟨J,q1,q2,q3,q4,q5,q6,-⟩:=hc;obtain⟨t,rfl,h5,h4,G,h2,r,-⟩:=D.lit;simp only[lv4,lv3,lv2,lv1,sqL,sqR,dV,f18,Agx,up,Akz,h5,h4,G,h2,r]
 go_wp2_with (go_at_call 41;refine H.out.mono ?_;rintro e u ⟨rfl,E⟩;have Hb:=lH E;clear E)
 exact⟨xT,F.out.trans (Kp.of_below Hb.out)⟩
def ad9(y:iM B 30 0 9=7)(A:jL B 30 0 9=0)(C:LvS w b1 V B)(D:Sl a 253 (Il b1))(K:∀p q,Sl p 253 (qW b1)->Kp w q->GLb tP (Aks 18) k R p q):GLb tP (Aks 18) (.code (sqL lv5)::k) R a w:=by
 refine wQ (l':=(qW b1)) (λ_=>True) (λ_ _ _ _=>trivial) D xD xD (λW v=>?_) λp q r h2 _=>K p q r h2;have g:=C.kp v;have hc:=g.cells;have H:=c42 V B 30 0 9 W g.gbk.bk g.gbk.var;rw[y,A]at H;replace H:=lH H;have F:=lH v;clear v g C y A;obtain⟨za,la,L,pa,zc,lc,cc,pc⟩:=V;obtain⟨M,q1,q2,q3,q4,q5,q6,-⟩:=hc;obtain⟨t,rfl,J,I,h6,h5,h4,G,h2,r,-⟩:=D.lit;simp only[lv5,lv4,lv3,lv2,lv1,sqL,sqR,dV,f18,Agx,up,Akz,J,I,h6,h5,h4,G,h2,r]
 go_wp2_with (go_at_call 42;refine H.out.mono ?_;rintro e u ⟨rfl,E⟩;have Hb:=lH E;clear E)
 exact⟨xT,F.out.trans (Kp.of_below Hb.out)⟩
end
abbrev yV(c2 c1:Nat)(q1:Option aD)(p1 b1:Nat):List (Nat×vL):=((16,iN qi 0)::(15,pN (some ⟨c2,0,none⟩))::(14,iN qi 0)::(13,pN (some ⟨c1,0,none⟩))::(12,iN qi 0)::(11,sL q1 3 p1)::qW b1)
section
variable {R:vL->wD->Prop} {k:List Item} {a:Act} {w:wD} {b1:Nat} {V:BkV} {B:Bk}
def aea(C:LvS w b1 V B)(A:kR B 0 50=0)(D:nO B (0 :Int).toNat 50=[5,17,21])(g:Sl a 253 (qW b1))(K:∀y r q p,Sl y 253 ((12,iN qi 0)::(11,sL q 3 p)::qW b1)->Kp w r->aF r q [5,17,21]->GLb tP (Aks 18) k R y r):GLb tP (Aks 18) (.code (sqL lv6)::k) R a w:=by
 simp only[lv6,lv5,lv4,lv3,lv2,lv1,sqL,sqR,dV,f18,Agx];refine bK ?_
 show GLb _ _ (.inRegion _ [0,1,2,3,4,5,6]::_) _ _ _
 refine oz C.cells g λa g=>?_;refine lq (Oy C.gbk 0 50) g λa v u F g=>?_;obtain⟨E,x,rfl,_,hx⟩:=F;obtain⟨q,p,e,hn,_⟩:=hx A;rw[D]at e hn;simp only[Ah9,Aln,Akz]at e;rw[A,e]at g;refine aC (.tuple #[sL q 3 p,iN qi 0]) g λa g=>?_;refine aC (sL q 3 p) g λa g=>?_;refine aC (iN qi 0) g λa g=>?_;refine aC (sL q 3 p) g λa g=>?_;refine aC (iN qi 0) g λa g=>?_;exact bM (K _ _ q p ⟨g.1,g.2.1,g.2.2.1,g.2.2.2.1,g.tl.tl.tl.tl.tl.tl.tl.2.2⟩ E hn)
def aeb(r:LvS w b1 V B)(y:nU B 1=0)(A:wK B (1 :Int).toNat=(0,16))(e:Sl a 253 ((12,iN qi 0)::(11,sL q1 3 p1)::qW b1))(K:∀q p b,Sl q 253 ((14,iN qi 0)::(13,pN (some ⟨b,0,none⟩))::(12,iN qi 0)::(11,sL q1 3 p1)::qW b1)->Kp w p->Cells p [(⟨b,0,none⟩,iN qi 0),(⟨b,1,none⟩,iN qi 16)]->GLb tP (Aks 18) k R q p):GLb tP (Aks 18) (.code (sqL lv7)::k) R a w:=by
 simp only[lv7,lv6,lv5,lv4,lv3,lv2,lv1,sqL,sqR,dV,f18,Agx];refine bK ?_
 show GLb _ _ (.inRegion _ [0,1,2,3,4,5,6,7]::_) _ _ _
 refine oz r.cells e λa e=>?_;refine lq (abB r.gbk 1) e λa v u D e=>?_;obtain⟨C,rfl⟩:=D;rw[y,A]at e;simp only[if_true]at e;refine aC (.tuple #[.agg #[iN qi 0,iN qi 16],iN qi 0]) e λa e=>?_;refine aC (.agg #[iN qi 0,iN qi 16]) e λa e=>?_;refine aC (iN qi 0) e λa e=>?_;refine PW 0 16 e λa b u2 g hc e=>?_;refine aC (iN qi 0) e λa e=>?_;exact bM (K _ _ b ⟨e.1,e.2.1,e.2.2.1,e.2.2.2.1,e.tl.tl.tl.tl.tl.tl.tl.2.2⟩ (C.trans g) hc)
def aec(r:LvS w b1 V B)(y:nS B 0 20 50=0)(A:iY B (0 :Int).toNat 20 50=(0,16))(e:Sl a 253 ((14,iN qi 0)::(13,pN (some ⟨c1,0,none⟩))::(12,iN qi 0)::(11,sL q1 3 p1)::qW b1))(K:∀q p b,Sl q 253 ((16,iN qi 0)::(15,pN (some ⟨b,0,none⟩))::(14,iN qi 0)::(13,pN (some ⟨c1,0,none⟩))::(12,iN qi 0)::(11,sL q1 3 p1)::qW b1)->Kp w p->Cells p [(⟨b,0,none⟩,iN qi 0),(⟨b,1,none⟩,iN qi 16)]->GLb tP (Aks 18) k R q p):GLb tP (Aks 18) (.code (sqL lv8)::k) R a w:=by
 simp only[lv8,lv7,lv6,lv5,lv4,lv3,lv2,lv1,sqL,sqR,dV,f18,Agx];refine bK ?_
 show GLb _ _ (.inRegion _ [0,1,2,3,4,5,6,7]::_) _ _ _
 refine oz r.cells e λa e=>?_;refine lq (abw r.gbk 0 20 50) e λa v u D e=>?_;obtain⟨C,rfl⟩:=D;rw[y,A]at e;simp only[if_true]at e;refine aC (.tuple #[.agg #[iN qi 0,iN qi 16],iN qi 0]) e λa e=>?_;refine aC (.agg #[iN qi 0,iN qi 16]) e λa e=>?_;refine aC (iN qi 0) e λa e=>?_;refine PW 0 16 e λa b u2 g hc e=>?_;refine aC (iN qi 0) e λa e=>?_;exact bM (K _ _ b ⟨e.1,e.2.1,e.2.2.1,e.2.2.2.1,e.tl.tl.tl.tl.tl.tl.tl.2.2⟩ (C.trans g) hc)
def aed(C:LvS w b1 V B)(A:kU B=0)(D:pF B=[1,0,1])(g:Sl a 253 (yV c2 c1 q1 p1 b1))(K:∀y r q p,Sl y 253 ((18,iN qi 0)::(17,sL q 3 p)::yV c2 c1 q1 p1 b1)->Kp w r->aF r q [1,0,1]->GLb tP (Aks 18) k R y r):GLb tP (Aks 18) (.code (sqL lv9)::k) R a w:=by
 simp only[lv9,lv8,lv7,lv6,lv5,lv4,lv3,lv2,lv1,sqL,sqR,dV,f18,Agx];refine bK ?_
 show GLb _ _ (.inRegion _ [0,1,2,3,4,5,6]::_) _ _ _
 refine oz C.cells g λa g=>?_;refine lq (O7 C.gbk) g λa v u F g=>?_;obtain⟨E,x,rfl,_,hx⟩:=F;obtain⟨q,p,e,hn,_⟩:=hx A;rw[D]at e hn;simp only[Ah9,Aln,Akz]at e;rw[A,e]at g;refine aC (.tuple #[sL q 3 p,iN qi 0]) g λa g=>?_;refine aC (sL q 3 p) g λa g=>?_;refine aC (iN qi 0) g λa g=>?_;refine aC (sL q 3 p) g λa g=>?_;refine aC (iN qi 0) g λa g=>?_;exact bM (K _ _ q p ⟨g.1,g.2.1,g.2.2.1,g.2.2.2.1,g.tl.tl.tl.tl.tl.tl.tl.2.2⟩ E hn)
def aee(D:LvS w b1 V B)(C:kV B lg=0)(e:Sl a 253 ((18,iN qi 0)::(17,sL q2 3 p2)::yV c2 c1 q1 p1 b1))(K:∀A y b g,Sl A 253 ((20,iN qi 0)::(19,pN (some ⟨b,0,none⟩))::(18,iN qi 0)::(17,sL q2 3 p2)::yV c2 c1 q1 p1 b1)->Kp w y->LvS y b g (bH B lg)->GLb tP (Aks 18) k R A y):GLb tP (Aks 18) (.code (sqL jA)::k) R a w:=by
 simp only[jA,lv9,lv8,lv7,lv6,lv5,lv4,lv3,lv2,lv1,sqL,sqR,dV,f18,Agx];refine bK ?_
 show GLb _ _ (.inRegion _ [0,1,2,3,4,5,6,7,8]::_) _ _ _
 refine oz D.cells e λa e=>?_;refine aC (.agg #[iN qi 0,iN qi 50,.string ⟨#[49,63]⟩]) e λa e=>?_;refine lq (acJ (p:=lg) D.gbk zE) e (λa v u F e=>?_) (he:=by have h:=e.2.2;simp only[SlA]at h;simp[Act.eval,h,lg]);obtain⟨E,x,rfl,_,hx⟩:=F;obtain⟨g,rfl,r⟩:=hx C;rw[C]at e;refine aC (.tuple #[g.val (bH B lg),iN qi 0]) e λa e=>?_;refine aC (g.val (bH B lg)) e λa e=>?_;refine aC (iN qi 0) e λa e=>?_;refine ad3 (V:=g) (B:=bH B lg) e λa b u2 q hc e=>?_;refine aC (iN qi 0) e λa e=>?_;exact bM (K _ _ b g ⟨e.1,e.2.1,e.2.2.1,e.2.2.2.1,e.tl.tl.tl.tl.tl.tl.tl.tl.2.2⟩ (E.trans q) ⟨hc,r.kp q⟩)
end
abbrev wR(q4:Option aD)(p4:Nat)(q3:Option aD)(p3 c3:Nat)(q2:Option aD)(p2 c2 c1:Nat)(q1:Option aD)(p1 b1:Nat):List (Nat×vL):=[(27,iN qi 0),(26,iN qi 1),(25,iN qi 1),(24,iN qi 0),(23,sL q4 2 p4),(22,iN qi 0),(21,sL q3 3 p3),(20,iN qi 0),(19,pN (some ⟨c3,0,none⟩)),(18,iN qi 0),(17,sL q2 3 p2),(16,iN qi 0),(15,pN (some ⟨c2,0,none⟩)),(14,iN qi 0),(13,pN (some ⟨c1,0,none⟩)),(12,iN qi 0),(11,sL q1 3 p1),(10,iN qi 0),(9,iN qi 7),(8,iN qi 0),(7,iN qi 5),(6,iN qi 0),(5,iN qi 0),(4,iN qi 12),(3,iN qi 0),(2,iN qi 15),(1,pN (some ⟨b1,0,none⟩))]
abbrev yX(c3:Nat)(q2:Option aD)(p2 c2 c1:Nat)(q1:Option aD)(p1 b1:Nat):List (Nat×vL):=((20,iN qi 0)::(19,pN (some ⟨c3,0,none⟩))::(18,iN qi 0)::(17,sL q2 3 p2)::yV c2 c1 q1 p1 b1)
section
variable {f:FuncId} {a:Act} {w:wD} {k:List Item} {ops:Array Oper} {i d N:Nat} {rest:List Nat} {o:Oper} {l:List (Nat×vL)} {R:vL->wD->Prop}
def PX(x y:Int)(A:Sl a N l)(h:∀r b v,Kp w v->aF v (some ⟨b,0,none⟩) [x,y]->Sl r N ((d,sL (some ⟨b,0,none⟩) 2 2)::l)->GLb tP (Go.Conc.base f) (.inRegion ops rest::k) R r v)(E:eU tP ops i o:=by exact okA rfl)(g:o.dst=some d:=by rfl)(C:o.op=.buildSlice 28 2 #[(0,.const (iN qi x)),(1,.const (iN qi y))]:=by rfl)(D:d<N:=by decide)(hn:(l.map (·.1)).contains d=false:=by rfl):GLb tP (Go.Conc.base f) (.inRegion ops (i::rest)::k) R a w:=by
 refine qA (d:=d) (sL (some ⟨w.heap.size,0,none⟩) 2 2) (cL #[iN qi x,iN qi y] 3) E g xN (by rw[A.1];exact D) (λM G=>?_) λr p=>h r w.heap.size _ (Kp.alloc _ _) (λi n q=>?_) (A.put p hn)
 ·obtain⟨H,J,L,K,F,I⟩:=o;simp only at C;subst C;simp[go_sem];rw[aP]
 have:=aX (last_at (w:=w) (o:=.cells #[iN qi x,iN qi y] 3) rfl)
 match i,q with
 |0,q=>cases q;exact⟨_,_,rfl,(this 0).1⟩
 |1,q=>cases q;exact⟨_,_,rfl,(this 1).1⟩
end
def su.slB{l:List (Int×Int)}{g:Option aD}(h:∀i x,l[i]? =some x->∃b,g=some ⟨b,0,none⟩/\w.cell? ⟨b,i*2,none⟩=some (iN qi x.1)/\w.cell? ⟨b,i*2+1,none⟩=some (iN qi x.2)):SlB w g l:=λi x hx=>by obtain⟨b,e,p,h2⟩:=h i x hx;exact⟨b,0,e,by rw[Aie];exact p,by rw[Aie];exact h2⟩
section
variable {R:vL->wD->Prop} {k:List Item} {a:Act} {w:wD} {b1:Nat} {V:BkV} {B:Bk}
def aef(C:LvS w c3 V B)(A:kU B=0)(D:pF B=[1,1,1])(g:Sl a 253 (yX c3 q2 p2 c2 c1 q1 p1 b1))(K:∀y r q p,Sl y 253 ((22,iN qi 0)::(21,sL q 3 p)::yX c3 q2 p2 c2 c1 q1 p1 b1)->Kp w r->aF r q [1,1,1]->GLb tP (Aks 18) k R y r):GLb tP (Aks 18) (.code (sqL jO)::k) R a w:=by
 simp only[jO,jA,lv9,lv8,lv7,lv6,lv5,lv4,lv3,lv2,lv1,sqL,sqR,dV,f18,Agx];refine bK ?_
 show GLb _ _ (.inRegion _ [0,1,2,3,4,5,6]::_) _ _ _
 refine oz C.cells g λa g=>?_;refine lq (O7 C.gbk) g λa v u F g=>?_;obtain⟨E,x,rfl,_,hx⟩:=F;obtain⟨q,p,e,hn,_⟩:=hx A;rw[D]at e hn;simp only[Ah9,Aln,Akz]at e;rw[A,e]at g;refine aC (.tuple #[sL q 3 p,iN qi 0]) g λa g=>?_;refine aC (sL q 3 p) g λa g=>?_;refine aC (iN qi 0) g λa g=>?_;refine aC (sL q 3 p) g λa g=>?_;refine aC (iN qi 0) g λa g=>?_;exact bM (K _ _ q p ⟨g.1,g.2.1,g.2.2.1,g.2.2.2.1,g.tl.tl.tl.tl.tl.tl.tl.2.2⟩ E hn)
def aeg(D:LvS w c3 V B)(C:gJ B 0 [20,50]=0)(E:pq B (0 :Int).toNat 0 [20,50]=[(15,15),(12,12)])(g:Sl a 253 ((22,iN qi 0)::(21,sL q3 3 p3)::yX c3 q2 p2 c2 c1 q1 p1 b1))(K:∀A y q p,Sl A 253 ((24,iN qi 0)::(23,sL q 2 p)::(22,iN qi 0)::(21,sL q3 3 p3)::yX c3 q2 p2 c2 c1 q1 p1 b1)->Kp w y->SlB y q [(15,15),(12,12)]->GLb tP (Aks 18) k R A y):GLb tP (Aks 18) (.code (sqL jY)::k) R a w:=by
 simp only[jY,jO,jA,lv9,lv8,lv7,lv6,lv5,lv4,lv3,lv2,lv1,sqL,sqR,dV,f18,Agx];refine bK ?_
 show GLb _ _ (.inRegion _ [0,1,2,3,4,5,6,7]::_) _ _ _
 refine oz D.cells g λa g=>?_;refine PX 20 50 g λa b u0 hk0 r g=>?_;refine lq (abJ (T:=[20,50]) (tc:=2) (D.kp hk0).gbk 0 r) g λa v u G g=>?_;obtain⟨F,x,rfl,_,hx⟩:=G;obtain⟨q,p,e,hn,_⟩:=hx C;rw[E]at e hn;simp only[Ah9,Aln,Akz]at e;rw[C,e]at g;refine aC (.tuple #[sL q 2 p,iN qi 0]) g λa g=>?_;refine aC (sL q 2 p) g λa g=>?_;refine aC (iN qi 0) g λa g=>?_;refine aC (sL q 2 p) g λa g=>?_;refine aC (iN qi 0) g λa g=>?_;exact bM (K _ _ q p ⟨g.1,g.2.1,g.2.2.1,g.2.2.2.1,g.tl.tl.tl.tl.tl.tl.tl.tl.2.2⟩ (hk0.trans F) (su.slB hn))
def aeh(q:LvS w b1 V B)(y:gJ B 0 [20,50]=0)(A:sK B 0 [20,50]=(1,1))(e:Sl a 253 ((24,iN qi 0)::(23,sL q4 2 p4)::(22,iN qi 0)::(21,sL q3 3 p3)::yX c3 q2 p2 c2 c1 q1 p1 b1))(K:∀p r,Sl p 253 (wR q4 p4 q3 p3 c3 q2 p2 c2 c1 q1 p1 b1)->Kp w r->GLb tP (Aks 18) k R p r):GLb tP (Aks 18) (.code (sqL lu)::k) R a w:=by
 simp only[lu,jY,jO,jA,lv9,lv8,lv7,lv6,lv5,lv4,lv3,lv2,lv1,sqL,sqR,dV,f18,Agx];refine bK ?_
 show GLb _ _ (.inRegion _ [0,1,2,3,4,5,6,7,8,9]::_) _ _ _
 refine oz q.cells e λa e=>?_;refine PX 20 50 e λa b u0 hk0 g e=>?_;refine lq (adJ (T:=[20,50]) (tc:=2) (q.kp hk0).gbk 0 g) e λa v u D e=>?_;obtain⟨C,rfl⟩:=D;rw[y,A]at e;refine aC (.tuple #[iN qi 1,iN qi 1,iN qi 0]) e λa e=>?_;refine aC (iN qi 1) e λa e=>?_;refine aC (iN qi 1) e λa e=>?_;refine aC (iN qi 0) e λa e=>?_;refine aC (iN qi 1) e λa e=>?_;refine aC (iN qi 1) e λa e=>?_;refine aC (iN qi 0) e λa e=>?_;exact bM (K _ _ ⟨e.1,e.2.1,e.2.2.1,e.2.2.2.1,e.2.2.2.2.1,e.tl.tl.tl.tl.tl.tl.tl.tl.tl.tl.2.2⟩ (hk0.trans C))
def aei(C:LvS w b1 V B)(A:kR B 1 4=0)(D:nO B (1 :Int).toNat 4=[12,13])(g:Sl a 253 (wR q4 p4 q3 p3 c3 q2 p2 c2 c1 q1 p1 b1))(K:∀y r q p,Sl y 253 ((29,iN qi 0)::(28,sL q 2 p)::wR q4 p4 q3 p3 c3 q2 p2 c2 c1 q1 p1 b1)->Kp w r->aF r q [12,13]->GLb tP (Aks 18) k R y r):GLb tP (Aks 18) (.code (sqL lZ)::k) R a w:=by
 simp only[lZ,lu,jY,jO,jA,lv9,lv8,lv7,lv6,lv5,lv4,lv3,lv2,lv1,sqL,sqR,dV,f18,Agx];refine bK ?_
 show GLb _ _ (.inRegion _ [0,1,2,3,4,5,6]::_) _ _ _
 refine oz C.cells g λa g=>?_;refine lq (Oy C.gbk 1 4) g λa v u F g=>?_;obtain⟨E,x,rfl,_,hx⟩:=F;obtain⟨q,p,e,hn,_⟩:=hx A;rw[D]at e hn;simp only[Ah9,Aln,Akz]at e;rw[A,e]at g;refine aC (.tuple #[sL q 2 p,iN qi 0]) g λa g=>?_;refine aC (sL q 2 p) g λa g=>?_;refine aC (iN qi 0) g λa g=>?_;refine aC (sL q 2 p) g λa g=>?_;refine aC (iN qi 0) g λa g=>?_;exact bM (K _ _ q p ⟨g.1,g.2.1,g.2.2.1,g.2.2.2.1,g.tl.tl.tl.tl.tl.tl.tl.2.2⟩ E hn)
def aej(C:LvS w b1 V B)(A:nN B 1=0)(D:rY B (1 :Int).toNat=[7,8])(g:Sl a 253 ((29,iN qi 0)::(28,sL q5 2 p5)::wR q4 p4 q3 p3 c3 q2 p2 c2 c1 q1 p1 b1))(K:∀y r q p,Sl y 253 ((31,iN qi 0)::(30,sL q 2 p)::(29,iN qi 0)::(28,sL q5 2 p5)::wR q4 p4 q3 p3 c3 q2 p2 c2 c1 q1 p1 b1)->Kp w r->aF r q [7,8]->GLb tP (Aks 18) k R y r):GLb tP (Aks 18) (.code (sqL oD)::k) R a w:=by
 simp only[oD,lZ,lu,jY,jO,jA,lv9,lv8,lv7,lv6,lv5,lv4,lv3,lv2,lv1,sqL,sqR,dV,f18,Agx];refine bK ?_
 show GLb _ _ (.inRegion _ [0,1,2,3,4,5,6]::_) _ _ _
 refine oz C.cells g λa g=>?_;refine lq (abh C.gbk 1) g λa v u F g=>?_;obtain⟨E,x,rfl,_,hx⟩:=F;obtain⟨q,p,e,hn,_⟩:=hx A;rw[D]at e hn;simp only[Ah9,Aln,Akz]at e;rw[A,e]at g;refine aC (.tuple #[sL q 2 p,iN qi 0]) g λa g=>?_;refine aC (sL q 2 p) g λa g=>?_;refine aC (iN qi 0) g λa g=>?_;refine aC (sL q 2 p) g λa g=>?_;refine aC (iN qi 0) g λa g=>?_;exact bM (K _ _ q p ⟨g.1,g.2.1,g.2.2.1,g.2.2.2.1,g.tl.tl.tl.tl.tl.tl.tl.2.2⟩ E hn)
end
abbrev sQ(q6:Option aD)(p6:Nat)(q5:Option aD)(p5:Nat)(q4:Option aD)(p4:Nat)(q3:Option aD)(p3 c3:Nat)(q2:Option aD)(p2 c2 c1:Nat)(q1:Option aD)(p1 b1:Nat):List (Nat×vL):=((31,iN qi 0)::(30,sL q6 2 p6)::(29,iN qi 0)::(28,sL q5 2 p5)::wR q4 p4 q3 p3 c3 q2 p2 c2 c1 q1 p1 b1)
abbrev uX(q7:Option aD)(p7:Nat)(q6:Option aD)(p6:Nat)(q5:Option aD)(p5:Nat)(q4:Option aD)(p4:Nat)(q3:Option aD)(p3 c3:Nat)(q2:Option aD)(p2 c2 c1:Nat)(q1:Option aD)(p1 b1:Nat):List (Nat×vL):=((34,iN qi 0)::(33,sL q7 2 p7)::sQ q6 p6 q5 p5 q4 p4 q3 p3 c3 q2 p2 c2 c1 q1 p1 b1)
def aek(B:Bk):Bk:={B with P:=[lg,CU]}
section
variable {R:vL->wD->Prop} {k:List Item} {a:Act} {w:wD} {b1:Nat} {V:BkV} {B:Bk}
def ael(hL:LvS w b1 V B)(hS:Sl a 253 (sQ q6 p6 q5 p5 q4 p4 q3 p3 c3 q2 p2 c2 c1 q1 p1 b1))(K:∀g w' b,Sl g 253 ((32,pN (some ⟨b,0,none⟩))::sQ q6 p6 q5 p5 q4 p4 q3 p3 c3 q2 p2 c2 c1 q1 p1 b1)->Kp w w'->w.heap.size<=b->w'.heap[b]? =some (cL #[iN qi B.day,iN qi B.D,iN qi B.U,sL V.za B.Z.length V.zc,sL V.la B.L.length V.lc,sL V.ca B.C.length V.cc,sL V.pa B.P.length V.pc] 27 (0,0))->GLb tP (Aks 18) k R g w'):GLb tP (Aks 18) (.code (sqL pJ)::k) R a w:=by
 refine fP (S:=λg u=>∃b:Nat,Sl g 253 ((32,pN (some ⟨b,0,none⟩))::sQ q6 p6 q5 p5 q4 p4 q3 p3 c3 q2 p2 c2 c1 q1 p1 b1)/\Kp w u/\w.heap.size<=b/\u.heap[b]? =some (cL #[iN qi B.day,iN qi B.D,iN qi B.U,sL V.za B.Z.length V.zc,sL V.la B.L.length V.lc,sL V.ca B.C.length V.cc,sL V.pa B.P.length V.pc] 27 (0,0))) ⟨f18,rfl,xD⟩ xN hS.2.1 xD xD (λa u τ d ⟨b,p,h2,q,h4⟩=>⟨b,p,Kp.tp_r.1 h2,q,by rwa [aP]at h4⟩) (λτ=>?_) λg u _ ⟨b,p,h2,q,h4⟩=>K g u b p h2 q h4;obtain⟨W,hW⟩:∃W,W=w.tp τ 0 noJ:=⟨_,rfl⟩;have hk:Kp w W:=by rw[hW];exact Kp.tp_r.2 (.refl _)
 have hc:=(hL.kp hk).cells;rw[<-hW];clear hW;have HK:=lH hk;clear hk hL;obtain⟨za,la,ca,pa,zc,lc,cc,pc⟩:=V;obtain⟨ab,ac,ad,ae,af,ag,ah,-⟩:=hc;obtain⟨t,rfl,aa,Z,Y,X,U,T,Q,O,M,L,J,I,H,G,F,E,D,C,A,y,v,r,h9,h8,h7,h6,h5,h4,q,h2,p,-⟩:=hS.lit;simp only[pJ,oD,lZ,lu,jY,jO,jA,lv9,lv8,lv7,lv6,lv5,lv4,lv3,lv2,lv1,sqL,sqR,dV,f18,Agx,up,Akz,aa,Z,Y,X,U,T,Q,O,M,L,J,I,H,G,F,E,D,C,A,y,v,r,h9,h8,h7,h6,h5,h4,q,h2,p];go_wp2;exact⟨W.heap.size,xT,HK.out.trans (Kp.alloc _ _),HK.out.size,last_at rfl⟩
def aem{w0:wD}(W:GBk w0 V B)(hk0:Kp w0 w)(Y:w0.heap.size<=b)(I:w.heap[b]? =some (cL #[iN qi B.day,iN qi B.D,iN qi B.U,sL V.za B.Z.length V.zc,sL V.la B.L.length V.lc,sL V.ca B.C.length V.cc,sL V.pa B.P.length V.pc] 27 (0,0)))(X:Sl a 253 ((32,pN (some ⟨b,0,none⟩))::sQ q6 p6 q5 p5 q4 p4 q3 p3 c3 q2 p2 c2 c1 q1 p1 b1))(K:∀H F O,Sl H 253 ((32,pN (some ⟨b,0,none⟩))::sQ q6 p6 q5 p5 q4 p4 q3 p3 c3 q2 p2 c2 c1 q1 p1 b1)->Kp w0 F->LvS F b O (aek B)->GLb tP (Aks 18) k R H F):GLb tP (Aks 18) (.code (sqL qX)::k) R a w:=by
 have J:(Aks 18).kind≠.early:=by intro e;cases e
 have aa:=(Array.getElem?_eq_some_iff.1 I).1;simp only[qX,pJ,oD,lZ,lu,jY,jO,jA,lv9,lv8,lv7,lv6,lv5,lv4,lv3,lv2,lv1,sqL,sqR,dV,f18,Agx];refine bK ?_
 show GLb _ _ (.inRegion _ [0,1,2,3,4]::_) _ _ _
 refine aC (.agg #[iN qi 0,iN qi 50,.string ⟨#[49,63]⟩]) X λa T=>?_;refine aC (.agg #[iN qi 0,iN qi 50,.string ⟨#[50,63]⟩]) T λa h2=>?_;refine qA (d:=114) (sL (some ⟨w.heap.size,0,none⟩) 2 2) (cL #[iN qi 0,iN qi 50,.string ⟨#[49,63]⟩,iN qi 0,iN qi 50,.string ⟨#[50,63]⟩] 44) (by exact okA rfl) rfl J (by rw[h2.1];decide) (λG d=>?_) λa p=>?_
 ·have h:=h2.2.2;simp only[SlA]at h;simp[go_sem,h];rw[aP]
 have U:=h2.put p (by rfl);obtain⟨u,E⟩:∃u,u=w.alloc (cL #[iN qi 0,iN qi 50,.string ⟨#[49,63]⟩,iN qi 0,iN qi 50,.string ⟨#[50,63]⟩] 44):=⟨_,rfl⟩;rw[<-E];have M:Kp w u:=by rw[E];exact Kp.alloc _ _
 have Z:u.heap[w.heap.size]? =some (cL #[iN qi 0,iN qi 50,.string ⟨#[49,63]⟩,iN qi 0,iN qi 50,.string ⟨#[50,63]⟩] 44 (0,0)):=by rw[E];exact last_at rfl
 refine aC (pN (some ⟨b,6,none⟩)) U λa h4=>?_;have C:=M.obj I;refine oW (w1:=u.setCell ⟨b,6,none⟩ (sL (some ⟨w.heap.size,0,none⟩) 2 2)) (by exact okA rfl) rfl J (λG d=>⟨d,?_⟩) ?_
 ·have h:=h4.2.2;simp only[SlA]at h;have y:=aX C 6;have Q:(u.tp G d noJ).cell? ⟨b,6,none⟩=some (sL V.pa B.P.length V.pc):=by rw[aT,y.1];rfl
  have S:(u.tp G d noJ).frozen? ⟨b,6,none⟩=false:=by rw[lI _ _ _ dS];exact y.2
  simp[go_sem,h,Q,S,qy]
 obtain⟨u2,r⟩:∃u2,u2=u.setCell ⟨b,6,none⟩ (sL (some ⟨w.heap.size,0,none⟩) 2 2):=⟨_,rfl⟩;rw[<-r];have L:Kp w0 u2:=by rw[r];exact(hk0.trans M).set Y _
 have D:u2.heap[b]? =some (cL #[iN qi B.day,iN qi B.D,iN qi B.U,sL V.za B.Z.length V.zc,sL V.la B.L.length V.lc,sL V.ca B.C.length V.cc,sL (some ⟨w.heap.size,0,none⟩) 2 2] 27 (0,0)):=by rw[r];exact(iJ C 6 _).trans yW
 have A:u2.heap[w.heap.size]? =some (cL #[iN qi 0,iN qi 50,.string ⟨#[49,63]⟩,iN qi 0,iN qi 50,.string ⟨#[50,63]⟩] 44 (0,0)):=by rw[r,Below.heap_setCell _ _ _ _ (by show w.heap.size≠b;omega)];exact Z
 have g:=W.kp L;refine bM (K _ u2 {V with pa:=some ⟨w.heap.size,0,none⟩,pc:=2} ⟨h4.1,h4.2.1,h4.tl.tl.tl.tl.2.2⟩ L ⟨?_,⟨⟨g.bk.at_.Z,g.bk.at_.L,g.bk.at_.C,λi z hz=>?_⟩,g.bk.nz,g.bk.nl,g.bk.nc,by show 2<1000;decide,g.bk.lc,λp hp=>?_⟩,g.var,g.za,g.la,g.ca,(λx hx=>by cases hx;exact⟨_,_,_,A⟩),g.big⟩)
 ·have:=λj=>(aX D j).1;exact⟨this 0,this 1,this 2,this 3,this 4,this 5,this 6,trivial⟩
 ·have q:([lg,CU]:List Pt)[i]? =some z:=hz;have:=λj=>(aX A j).1
  match i,q with
  |0,q=>cases q;exact⟨_,_,rfl,this 0,this 1,this 2⟩
  |1,q=>cases q;exact⟨_,_,rfl,this 3,this 4,this 5⟩
 have v:p∈([lg,CU]:List Pt):=hp
 rcases Ab3.1 v with rfl|v
 ·decide
 rw[Aag.1 v];decide
def aen(A:LvS w b V B)(C:aV B=0)(y:qR B=[0,1])(e:Sl a 253 ((32,pN (some ⟨b,0,none⟩))::sQ q6 p6 q5 p5 q4 p4 q3 p3 c3 q2 p2 c2 c1 q1 p1 b1))(K:∀r g q p,Sl r 253 ((34,iN qi 0)::(33,sL q 2 p)::(32,pN (some ⟨b,0,none⟩))::sQ q6 p6 q5 p5 q4 p4 q3 p3 c3 q2 p2 c2 c1 q1 p1 b1)->Kp w g->aF g q [0,1]->GLb tP (Aks 18) k R r g):GLb tP (Aks 18) (.code (sqL sN)::k) R a w:=by
 simp only[sN,qX,pJ,oD,lZ,lu,jY,jO,jA,lv9,lv8,lv7,lv6,lv5,lv4,lv3,lv2,lv1,sqL,sqR,dV,f18,Agx];refine bK ?_
 show GLb _ _ (.inRegion _ [0,1,2,3,4,5,6]::_) _ _ _
 refine oz A.cells e λa e=>?_;refine lq (adg A.gbk) e λa v u E e=>?_;obtain⟨D,q,p,rfl,hn⟩:=E;rw[y]at hn;rw[C,y]at e;simp only[Ah9,Aln,Akz]at e;refine aC (.tuple #[sL q 2 p,iN qi 0]) e λa e=>?_;refine aC (sL q 2 p) e λa e=>?_;refine aC (iN qi 0) e λa e=>?_;refine aC (sL q 2 p) e λa e=>?_;refine aC (iN qi 0) e λa e=>?_;exact bM (K _ _ q p ⟨e.1,e.2.1,e.2.2.1,e.2.2.2.1,e.tl.tl.tl.tl.tl.tl.tl.2.2⟩ D hn)
def aeo(hS:Sl a 253 (uX q7 p7 q6 p6 q5 p5 q4 p4 q3 p3 c3 q2 p2 c2 c1 q1 p1 b1))(K:∀e g,Sl e 253 (uX q7 p7 q6 p6 q5 p5 q4 p4 q3 p3 c3 q2 p2 c2 c1 q1 p1 b1)->Kp w g->GLb tP (Aks 18) k R e g):GLb tP (Aks 18) (.code (sqL uV)::k) R a w:=by refine wQ (l':=(uX q7 p7 q6 p6 q5 p5 q4 p4 q3 p3 c3 q2 p2 c2 c1 q1 p1 b1)) (λ_=>True) (λ_ _ _ _=>trivial) hS xD xD (λW hk=>?_) λe g p h2 _=>K e g p h2;have HK:=lH hk;clear hk;obtain⟨t,rfl,aa,Z,Y,X,U,T,S,Q,O,M,L,J,I,H,G,F,E,D,C,A,y,v,r,q,h9,h8,h7,h6,h5,h4,h3,h2,p,-⟩:=hS.lit;simp only[uV,sN,qX,pJ,oD,lZ,lu,jY,jO,jA,lv9,lv8,lv7,lv6,lv5,lv4,lv3,lv2,lv1,sqL,sqR,dV,f18,Agx,up,Akz,aa,Z,Y,X,U,T,S,Q,O,M,L,J,I,H,G,F,E,D,C,A,y,v,r,q,h9,h8,h7,h6,h5,h4,h3,h2,p];go_wp2;exact⟨xT,HK.out⟩
end
def fU{ops:Array Oper}{o:Oper}{T:Array vL}{j d:Nat}{b:Bool}(p:o.guard=some (j,b))(q:(ops[j]?).bind (·.dst)=some d)(h:T[d]?.getD ud=.bool b):Ag2 o (yielded ops T)=true:=by
 have g:T[d]? =some (.bool b):=by
  cases e:T[d]? with
  |none=>rw[e]at h;cases h
  |some v=>rw[e]at h;exact congrArg some h
 unfold Ag2;rw[p];simp[yielded,q,g]
def lvR(S:List vL)(L:List (List Int))(P:List (List (Int×Int)))(v:vL)(u:wD):Nat×Nat->Prop
 |(0,n)=>v=.bool (n==1)
 |(1,n)=>v=iN qi n
 |(2,n)=>v=.agg #[iN qi (n / 100 :Nat),iN qi (n % 100 :Nat)]
 |(3,n)=>v=S.getD n ud
 |(4,n)=>∃b,v=sL (some ⟨b,0,none⟩) (L.getD n []).length (L.getD n []).length/\aF u (some ⟨b,0,none⟩) (L.getD n [])
 |(_,n)=>∃b,v=sL (some ⟨b,0,none⟩) (P.getD n []).length (P.getD n []).length/\SlB u (some ⟨b,0,none⟩) (P.getD n [])
def SlB.kp{g:Option aD}{l:List (Int×Int)}(h:SlB w g l)(k:Kp w u):SlB u g l:=λi x hx=>by obtain⟨b,o,e,p,h2⟩:=h i x hx;exact⟨b,o,e,k.cell p,k.cell h2⟩
theorem lvR.kp{S:List vL}{L:List (List Int)}{P:List (List (Int×Int))}{v:vL}{u':wD}:∀{c:Nat×Nat},lvR S L P v u c->Kp u u'->lvR S L P v u' c
 |(0,_),h,_=>h
 |(1,_),h,_=>h
 |(2,_),h,_=>h
 |(3,_),h,_=>h
 |(4,_),⟨b,h1,h2⟩,k=>⟨b,h1,h2.kp k⟩
 |(_+5,_),⟨b,h1,h2⟩,k=>⟨b,h1,h2.kp k⟩
def yY(Q:Nat->Prop):List Nat->Prop
 |[]=>True
 |j::l=>Q j/\yY Q l
theorem iq{f:Nat->Bool}{n:Nat}{Q:Nat->Prop}(h:∀j,j<n->f j=true->Q j):∀{l:List Nat},(∀j∈l,f j=true)->(∀j∈l,j<n)->yY Q l
 |[],_,_=>trivial
 |j::_,h1,h2=>⟨h j (h2 j (.head _)) (h1 j (.head _)),iq h (λx q=>h1 x (.tail _ q)) λx q=>h2 x (.tail _ q)⟩
def wS(l:List Int)(e:Ahu):aF (w.alloc (cL ⟨l.map (.int qi)⟩ e)) (some ⟨w.heap.size,0,none⟩) l:=λi n h=>by have:=(aX (last_at (w:=w) (o:=.cells ⟨l.map (.int qi)⟩ e) rfl) i).1;exact⟨_,_,rfl,by rw[Aie,this];simp[h]⟩
def wU{f:FuncId}(hc:∀(A C:List Int) (H I:Option aD) (M O:Nat) (w:wD),aF w H A->aF w I C->A.length<=1000000->C.length<=1000000->Calls tP f #[sL H A.length M,sL I C.length O] w λe g=>e=.returned (.bool (decide (A=C)))/\Below w.heap.size w g){E F n:Nat}{l:List Int}{q r:Option aD}{p D:Nat}{Ri:vL->wD->Prop}(x:a.tmps[E]?.getD ud=sL q n p)(y:a.tmps[F]?.getD ud=sL r n D)(h1:aF w q l)(h2:aF u r l)(k:Kp w u)(hn:l.length=n:=by rfl)(G:l.length<=1000000:=by decide)(K:∀w,Ri (.bool true) w:=by exact λ_=>rfl):∀J,Calls tP f (#[Operand.tmp E,.tmp F].map a.eval) (u.tp J 0 noJ) λe g=>∃v,e=.returned v/\Kp u g/\Ri v g:=λJ=>by
 have e:#[Operand.tmp E,.tmp F].map a.eval=#[sL q l.length p,sL r l.length D]:=by subst hn;simp[Act.eval,x,y]
 rw[e];refine(hc l l q r p D _ ((h1.kp k).kp (Kp.tp_r.2 (.refl _))) (h2.kp (Kp.tp_r.2 (.refl _))) G G).mono ?_;rintro e g ⟨rfl,L⟩;exact⟨_,rfl,Kp.below_tp L,by simpa using K g⟩
section
variable {R:vL->wD->Prop} {k:List Item} {a:Act} {w:wD}
def aep{b1:Nat}(hS:Sl a 253 (uX q7 p7 q6 p6 q5 p5 q4 p4 q3 p3 c3 q2 p2 c2 c1 q1 p1 b1))(W:aF w q1 [5,17,21])(X:aF w q2 [1,0,1])(Y:aF w q3 [1,1,1])(Q:Cells w [(⟨c1,0,none⟩,iN qi 0),(⟨c1,1,none⟩,iN qi 16)])(S:Cells w [(⟨c2,0,none⟩,iN qi 0),(⟨c2,1,none⟩,iN qi 16)])(K:∀L w',Sl L 253 ((224,.bool false)::uX q7 p7 q6 p6 q5 p5 q4 p4 q3 p3 c3 q2 p2 c2 c1 q1 p1 b1)->Kp w w'->GLb tP (Aks 18) k R L w'):GLb tP (Aks 18) (.code (sqL (sqL sO))::k) R a w:=by
 have G:(Aks 18).kind≠.early:=by intro e;cases e
 have h9:∀n:Nat,n<=1000->n<=1000000:=λn h=>Agd h zE;simp only[sO,uV,sN,qX,pJ,oD,lZ,lu,jY,jO,jA,lv9,lv8,lv7,lv6,lv5,lv4,lv3,lv2,lv1,sqL,sqR,dV,f18,Agx];refine yC rfl hS [[],[0],[1],[2],[2,3],[2,4],[2,5],[6],[6,7],[6,8],[6,9],[10],[10,11],[10,12],[10,13],[14],[14,15],[14,16],[14,17],[18],[18],[18,19,20],[18,21],[18,22],[21,23],[24],[24],[24,25,26],[24,27],[26,28],[29],[29],[29,30,31],[29,32],[31,33],[34],[34],[34,35,36],[34,37],[34,38],[37,39],[40],[40],[40,41,42],[40,43],[40,44]] ((List.range 46).map λi=>some (i+179)) (λi v u=>lvR [sL q1 3 p1,sL q2 3 p2,sL q3 3 p3] [[5,17,21],[1,0,1],[1,1,1]] [] v u (([(1,15),(0,0),(0,0),(1,12),(0,0),(0,0),(0,0),(1,0),(0,0),(0,0),(0,0),(1,5),(0,0),(0,0),(0,0),(1,7),(0,0),(0,0),(0,0),(3,0),(4,0),(0,1),(0,0),(0,0),(0,0),(2,16),(2,16),(0,0),(0,0),(0,0),(2,16),(2,16),(0,0),(0,0),(0,0),(3,1),(4,1),(0,1),(0,0),(0,0),(0,0),(3,2),(4,2),(0,1),(0,0),(0,0)]:List (Nat×Nat)).getD i (0,0))) xD xD (ks:=[34,33,31,30,29,28,27,26,25,24,23,22,21,20,19,18,17,16,15,14,13,12,11,10,9,8,7,6,5,4,3,2,1]) rfl xD ?_ ?_
 rotate_left
 ·exact λL u M h2 h3=>K L u ⟨M.1,M.2.1,h3 45 zE,M.2.2⟩ h2
 intro f a1 F i rest O p r hi A K;obtain⟨_,_,aw,av,au,ar,aq,ap,ao,an,am,al,ak,aj,ac,ai,ab,ah,aa,ag,J,af,I,ae,Z,ad,s9,s8,s7,s6,s5,s4,s3,s2,s1,_⟩:=O;have T:i<46:=hi
 match i,T with
 |1,_|2,_|3,_|4,_|5,_|6,_|7,_|8,_|9,_|10,_|11,_|12,_|13,_|14,_|15,_|16,_|17,_|18,_|19,_|22,_|23,_|24,_|28,_|29,_|33,_|34,_|35,_|38,_|39,_|40,_|41,_|44,_|45,_=>
  have q:=iq r A zE
  try simp[yY,lvR,sv]at q
  exact uQ _ (okG rfl) (by first|(simp[Ag2];done)|exact fU rfl rfl q|exact fU rfl rfl q.1) (λE d=>by simp[go_sem,q,s2,s4,s6,s7,s9,Z,I,J,aa,ab,ac]) rfl p K
 |0,_=>exact uQ (iN qi 15) (okG rfl) xS (λE d=>by simp[go_sem,s2]) rfl p K
 |20,_=>have q:=iq r A zE;exact uS (sL (some ⟨F.heap.size,0,none⟩) 3 3) (cL #[iN qi 5,iN qi 17,iN qi 21] 3) (okG rfl) (fU rfl rfl q.1) G rfl (λE d=>by simp[go_sem];rw[aP]) (λ_ C _ _ _ _ h=>lvR.kp h C) p ⟨F.heap.size,rfl,wS [5,17,21] 3⟩ K λe=>by cases e
 |21,_=>have q:=iq r A zE;obtain⟨g,x,⟨b,y,H⟩,-⟩:=q;exact uT (Ri:=λv _=>v=.bool true) (f:=35) (fn:=f35) rfl rfl (fU rfl rfl g) xD rfl rfl G rfl xD (λv u E d h=>h) (wU c35 x y W H p) (λ_ C _ _ _ _ h=>lvR.kp h C) p K
 |36,_=>have q:=iq r A zE;exact uS (sL (some ⟨F.heap.size,0,none⟩) 3 3) (cL #[iN qi 1,iN qi 0,iN qi 1] 60) (okG rfl) (fU rfl rfl q.1) G rfl (λE d=>by simp[go_sem];rw[aP]) (λ_ C _ _ _ _ h=>lvR.kp h C) p ⟨F.heap.size,rfl,wS [1,0,1] 60⟩ K λe=>by cases e
 |37,_=>have q:=iq r A zE;obtain⟨g,x,⟨b,y,H⟩,-⟩:=q;exact uT (Ri:=λv _=>v=.bool true) (f:=78) (fn:=f78) rfl rfl (fU rfl rfl g) xD rfl rfl G rfl xD (λv u E d h=>h) (wU c78 x y X H p) (λ_ C _ _ _ _ h=>lvR.kp h C) p K
 |42,_=>have q:=iq r A zE;exact uS (sL (some ⟨F.heap.size,0,none⟩) 3 3) (cL #[iN qi 1,iN qi 1,iN qi 1] 60) (okG rfl) (fU rfl rfl q.1) G rfl (λE d=>by simp[go_sem];rw[aP]) (λ_ C _ _ _ _ h=>lvR.kp h C) p ⟨F.heap.size,rfl,wS [1,1,1] 60⟩ K λe=>by cases e
 |43,_=>have q:=iq r A zE;obtain⟨g,x,⟨b,y,H⟩,-⟩:=q;exact uT (Ri:=λv _=>v=.bool true) (f:=78) (fn:=f78) rfl rfl (fU rfl rfl g) xD rfl rfl G rfl xD (λv u E d h=>h) (wU c78 x y Y H p) (λ_ C _ _ _ _ h=>lvR.kp h C) p K
 |25,_=>have q:=iq r A zE;have D:=p.cells Q;exact uQ (.agg #[iN qi 0,iN qi 16]) (okG rfl) (fU rfl rfl q.1) (λE d=>by simp[go_sem,aT,I,D.1,D.2.1]) rfl p K
 |30,_=>have q:=iq r A zE;have D:=p.cells S;exact uQ (.agg #[iN qi 0,iN qi 16]) (okG rfl) (fU rfl rfl q.1) (λE d=>by simp[go_sem,aT,J,D.1,D.2.1]) rfl p K
 |26,_|31,_=>have q:=iq r A zE;exact Ij (Ri:=λv _=>v=.agg #[iN qi 0,iN qi 16]) (f:=38) (fn:=f38) rfl rfl (fU rfl rfl q.1) rfl rfl rfl G rfl xD (by simpa[Act.eval]using Ik 0 16 F) (λ_ C _ _ _ _ h=>lvR.kp h C) p K
 |27,_|32,_=>have q:=iq r A zE;simp[yY,lvR,sv]at q;have U:=λu=>OI 0 16 0 16 u;exact uQ (.bool false) (okG rfl) (fU rfl rfl q.1) (λE d=>by have U:=U (F.tp E d noJ);simp[go_sem,q];first|done|simpa[go_sem]using U) rfl p K
 |n+46,h=>exact absurd h zP
def aer{b1:Nat}(hS:Sl a 253 (uX q7 p7 q6 p6 q5 p5 q4 p4 q3 p3 c3 q2 p2 c2 c1 q1 p1 b1))(T:SlB w q4 [(15,15),(12,12)])(U:aF w q5 [12,13])(W:aF w q6 [7,8])(X:aF w q7 [0,1])(K:∀L w',Sl L 253 ((0,.bool true)::uX q7 p7 q6 p6 q5 p5 q4 p4 q3 p3 c3 q2 p2 c2 c1 q1 p1 b1)->Kp w w'->GLb tP (Aks 18) k R L w'):GLb tP (Aks 18) (.code (sqL Io)::k) R a w:=by
 have F:(Aks 18).kind≠.early:=by intro e;cases e
 have h9:∀n:Nat,n<=1000->n<=1000000:=λn h=>Agd h zE;simp only[Io,sO,uV,sN,qX,pJ,oD,lZ,lu,jY,jO,jA,lv9,lv8,lv7,lv6,lv5,lv4,lv3,lv2,lv1,sqL,sqR,dV,f18,Agx];refine yC rfl hS [[],[],[1],[1,2],[0,2,3],[4],[5],[5,6],[5,7],[5,8],[9],[9,10],[9,11],[9,12],[13],[13],[13,14,15],[13,16],[16,17],[18],[18],[18,19,20],[18,21],[21,22],[23],[23],[23,24,25],[23,26],[0,1,2,3,4,5,6,7,8,9,10,11,12,13,14,15,16,17,18,19,20,21,22,23,24,25,26,27]] ((List.range 28).map (λi=>some (i+225))++[some 0]) (λi v u=>lvR [sL q4 2 p4,sL q5 2 p5,sL q6 2 p6,sL q7 2 p7] [[12,13],[7,8],[0,1]] [[(15,15),(12,12)]] v u (([(3,0),(2,1515),(2,1212),(5,0),(0,1),(0,1),(1,1),(0,1),(0,1),(0,1),(1,1),(0,1),(0,1),(0,1),(3,1),(4,0),(0,1),(0,1),(0,1),(3,2),(4,1),(0,1),(0,1),(0,1),(3,3),(4,2),(0,1),(0,1),(0,1)]:List (Nat×Nat)).getD i (0,0))) xD xD (ks:=[34,33,31,30,29,28,27,26,25,24,23,22,21,20,19,18,17,16,15,14,13,12,11,10,9,8,7,6,5,4,3,2,1]) rfl xD ?_ ?_
 rotate_left
 ·exact λL u O h2 h3=>K L u ⟨O.1,O.2.1,h3 28 zE,O.2.2⟩ h2
 intro f a1 E i rest Q p q hi r K;obtain⟨_,_,ah,ag,af,ae,ad,ac,ab,aa,Z,Y,J,aw,av,au,ar,aq,ap,ao,an,am,al,ak,aj,ai,s9,s8,s7,s6,s5,s4,s3,s2,s1,_⟩:=Q;have S:i<29:=hi
 match i,S with
 |5,_|6,_|7,_|8,_|9,_|10,_|11,_|12,_|13,_|14,_|17,_|18,_|19,_|22,_|23,_|24,_|27,_|28,_=>
  have C:=iq q r zE
  try simp[yY,lvR,sv]at C
  exact uQ _ (okG rfl) (by first|(simp[Ag2];done)|exact fU rfl rfl C|exact fU rfl rfl C.1) (λG d=>by simp[go_sem,C,Z,aa,ab,ac,ad,ae,af,ag,ah,Y,J]) rfl p K
 |0,_=>exact uQ (sL q4 2 p4) (okG rfl) xS (λG d=>by simp[go_sem,J]) rfl p K
 |1,_=>exact Ij (Ri:=λv _=>v=.agg #[iN qi 15,iN qi 15]) (f:=38) (fn:=f38) rfl rfl xS rfl rfl rfl F rfl xD (by simpa[Act.eval]using Ik 15 15 E) (λ_ A _ _ _ _ h=>lvR.kp h A) p K
 |2,_=>exact Ij (Ri:=λv _=>v=.agg #[iN qi 12,iN qi 12]) (f:=38) (fn:=f38) rfl rfl xS rfl rfl rfl F rfl xD (by simpa[Act.eval]using Ik 12 12 E) (λ_ A _ _ _ _ h=>lvR.kp h A) p K
 |15,_=>have C:=iq q r zE;exact uS (sL (some ⟨E.heap.size,0,none⟩) 2 2) (cL #[iN qi 12,iN qi 13] 3) (okG rfl) (fU rfl rfl C.1) F rfl (λG d=>by simp[go_sem];rw[aP]) (λ_ A _ _ _ _ h=>lvR.kp h A) p ⟨E.heap.size,rfl,wS [12,13] 3⟩ K λe=>by cases e
 |16,_=>have C:=iq q r zE;obtain⟨g,x,⟨b,y,I⟩,-⟩:=C;exact uT (Ri:=λv _=>v=.bool true) (f:=35) (fn:=f35) rfl rfl (fU rfl rfl g) xD rfl rfl F rfl xD (λv u G d h=>h) (wU c35 x y U I p) (λ_ A _ _ _ _ h=>lvR.kp h A) p K
 |20,_=>have C:=iq q r zE;exact uS (sL (some ⟨E.heap.size,0,none⟩) 2 2) (cL #[iN qi 7,iN qi 8] 3) (okG rfl) (fU rfl rfl C.1) F rfl (λG d=>by simp[go_sem];rw[aP]) (λ_ A _ _ _ _ h=>lvR.kp h A) p ⟨E.heap.size,rfl,wS [7,8] 3⟩ K λe=>by cases e
 |21,_=>have C:=iq q r zE;obtain⟨g,x,⟨b,y,I⟩,-⟩:=C;exact uT (Ri:=λv _=>v=.bool true) (f:=35) (fn:=f35) rfl rfl (fU rfl rfl g) xD rfl rfl F rfl xD (λv u G d h=>h) (wU c35 x y W I p) (λ_ A _ _ _ _ h=>lvR.kp h A) p K
 |25,_=>have C:=iq q r zE;exact uS (sL (some ⟨E.heap.size,0,none⟩) 2 2) (cL #[iN qi 0,iN qi 1] 3) (okG rfl) (fU rfl rfl C.1) F rfl (λG d=>by simp[go_sem];rw[aP]) (λ_ A _ _ _ _ h=>lvR.kp h A) p ⟨E.heap.size,rfl,wS [0,1] 3⟩ K λe=>by cases e
 |26,_=>have C:=iq q r zE;obtain⟨g,x,⟨b,y,I⟩,-⟩:=C;exact uT (Ri:=λv _=>v=.bool true) (f:=35) (fn:=f35) rfl rfl (fU rfl rfl g) xD rfl rfl F rfl xD (λv u G d h=>h) (wU c35 x y X I p) (λ_ A _ _ _ _ h=>lvR.kp h A) p K
 |3,_=>
  have v1:a1.tmps[226]?.getD ud=.agg #[iN qi 15,iN qi 15]:=q 1 zE (r 1 zE);have v2:a1.tmps[227]?.getD ud=.agg #[iN qi 12,iN qi 12]:=q 2 zE (r 2 zE);refine uS (sL (some ⟨E.heap.size,0,none⟩) 2 2) (cL #[iN qi 15,iN qi 15,iN qi 12,iN qi 12] 32) (okG rfl) xS F rfl (λG d=>by simp[go_sem,v1,v2];rw[aP]) (λ_ A _ _ _ _ h=>lvR.kp h A) p ⟨E.heap.size,rfl,λi n D=>?_⟩ K λe=>by cases e
  have H:=aX (last_at (w:=E) (o:=.cells #[iN qi 15,iN qi 15,iN qi 12,iN qi 12] 32) rfl)
  match i,D with
  |0,D=>cases D;exact⟨_,0,rfl,(H 0).1,(H 1).1⟩
  |1,D=>cases D;exact⟨_,0,rfl,(H 2).1,(H 3).1⟩
 |4,_=>
  obtain⟨v0,-,⟨M,v3,n3⟩,-⟩:=iq q r zE;have v0:a1.tmps[225]?.getD ud=sL q4 2 p4:=v0;have v3:a1.tmps[228]?.getD ud=sL (some ⟨M,0,none⟩) 2 2:=v3;refine uT (Ri:=λv u=>lvR [sL q4 2 p4,sL q5 2 p5,sL q6 2 p6,sL q7 2 p7] [[12,13],[7,8],[0,1]] [[(15,15),(12,12)]] v u (0,1)) (f:=23) (fn:=f23) rfl rfl xS xD rfl rfl F rfl xD (λv u G d h=>h) (λG=>?_) (λ_ A _ _ _ _ h=>lvR.kp h A) p K;have e:#[Operand.tmp 225,.tmp 228].map a1.eval=#[sL q4 ([(15,15),(12,12)]:List (Int×Int)).length p4,sL (some ⟨M,0,none⟩) ([(15,15),(12,12)]:List (Int×Int)).length 2]:=by simp[Act.eval,v0,v3]
  rw[e];refine(c23 [(15,15),(12,12)] [(15,15),(12,12)] q4 (some ⟨M,0,none⟩) p4 2 _ ((T.kp p).kp (Kp.tp_r.2 (.refl _))) (n3.kp (Kp.tp_r.2 (.refl _))) zE zE).mono ?_;rintro e w' ⟨rfl,hb⟩;exact⟨_,rfl,Kp.below_tp hb,by rfl⟩
 |n+29,h=>exact absurd h zP
end
def bD{f:FuncId}{c:Afz}{R:vL->wD->Prop}{k:List Item}(hc:c=.seq (sqL c) (sqR c))(h:GLb tP (Aks f) (.code (sqL c):: .code (sqR c)::k) R a w):GLb tP (Aks f) (.code c::k) R a w:=by have:=aQ h;rwa [<-hc]at this
def CV(Z:dP w)(L:tP.globals.size<=w.heap.size):bT tP 18 #[] w λv Q=>Kp w Q/\v=.bool true:=by
 refine iU (f:=18) (fn:=f18) (x:=dV) rfl rfl ?_;obtain⟨A,T⟩:∃A:Act,A={tmps:=#[]++Array.replicate (f18.ntmps-0) ud,defers:=[]}:=⟨_,rfl⟩;have W:Sl A 253 []:=by subst T;exact⟨by simp[f18],rfl,trivial⟩
 show GLb _ _ _ _ {tmps:=#[]++Array.replicate (f18.ntmps-0) ud,defers:=[]} w
 rw[<-T];refine bD rfl (ad4 (λa w1 s S=>bD (c:=lv1) rfl (ad5 (Z.kp S) (Agd L S.size) (λa w2 b1 V s k2 e=>?_) s)) W);have K:=S.trans k2;clear S k2 W T Z L;have G:=adO;have H:=adP;have i3:=adQ;have i4:=adR;simp only[Alq]at G H;obtain⟨D,E⟩:=Als i3;obtain⟨j3,j4⟩:=Als i4;refine bD (c:=lv2) rfl (ad6 G.1 G.2 e s λa w s k=>bD (c:=lv3) rfl (ad7 H.1 H.2 (e.kp k) s λa Q s p=>?_));replace K:=(K.trans k).trans p;replace e:=(e.kp k).kp p;clear k p;refine bD (c:=lv4) rfl (ad8 D E e s λa w s k=>bD (c:=lv5) rfl (ad9 j3 j4 (e.kp k) s λa Q s p=>?_));replace K:=(K.trans k).trans p;replace e:=(e.kp k).kp p;clear k p G H i3 i4 D E j3 j4;refine bD (c:=lv6) rfl (aea e PL.1 PL.2 s λa w q1 p1 s k g=>?_);replace K:=K.trans k;replace e:=e.kp k;clear k;have G:=adS;have H:=adT;simp only[Alq]at G H;refine bD (c:=lv7) rfl (aeb e G.1 G.2 s λa w c1 s k q=>?_);replace K:=K.trans k;replace e:=e.kp k;replace g:=g.kp k;clear k;refine bD (c:=lv8) rfl (aec e H.1 H.2 s λa w c2 s k r=>?_);replace K:=K.trans k;replace e:=e.kp k;replace g:=g.kp k;replace q:=k.cells q;clear k G H;obtain⟨D,E⟩:=Als adU;refine bD (c:=lv9) rfl (aed e D E s λa w q2 p2 s k y=>?_);replace K:=K.trans k;replace e:=e.kp k;replace g:=g.kp k;replace q:=k.cells q;replace r:=k.cells r;clear k D E;refine bD (c:=jA) rfl (aee e adV s λa w c3 V2 s k J=>?_);replace K:=K.trans k;replace e:=e.kp k;replace g:=g.kp k;replace y:=y.kp k;replace q:=k.cells q;replace r:=k.cells r;clear k;obtain⟨D,E⟩:=Als adW;refine bD (c:=jO) rfl (aef J D E s λa w q3 p3 s k C=>?_);replace K:=K.trans k;replace e:=e.kp k;replace J:=J.kp k;replace g:=g.kp k;replace y:=y.kp k;replace q:=k.cells q;replace r:=k.cells r;clear k D E;obtain⟨D,E⟩:=Als adX;refine bD (c:=jY) rfl (aeg J D E s λa w q4 p4 s k F=>?_);replace K:=K.trans k;replace e:=e.kp k;replace g:=g.kp k;replace y:=y.kp k;replace C:=C.kp k;replace q:=k.cells q;replace r:=k.cells r;clear k D E J;refine bD (c:=lu) rfl (aeh e PU.1 PU.2 s λa w s k=>bD (c:=lZ) rfl (aei (e.kp k) PN.1 PN.2 s λa Q q5 p5 s p I=>?_));replace K:=(K.trans k).trans p;replace e:=(e.kp k).kp p;replace g:=g.kp (k.trans p);replace y:=y.kp (k.trans p);replace C:=C.kp (k.trans p);replace F:=F.kp (k.trans p);replace q:=(k.trans p).cells q;replace r:=(k.trans p).cells r;clear k p;refine bD (c:=oD) rfl (aej e PO.1 PO.2 s λa w q6 p6 s k M=>?_);replace K:=K.trans k;replace e:=e.kp k;replace g:=g.kp k;replace y:=y.kp k;replace C:=C.kp k;replace F:=F.kp k;replace I:=I.kp k;replace q:=k.cells q;replace r:=k.cells r;clear k;refine bD (c:=pJ) rfl (ael e s λa Q b s k X Y=>bD (c:=qX) rfl (aem e.gbk k X Y s λa aa V3 s k J=>bD (c:=sN) rfl (aen J PS.1 PS.2 s λa w3 q7 p7 s p O=>?_)));replace k:=k.trans p;replace K:=K.trans k;replace g:=g.kp k;replace y:=y.kp k;replace C:=C.kp k;replace F:=F.kp k;replace I:=I.kp k;replace M:=M.kp k;replace q:=k.cells q;replace r:=k.cells r;clear k p e J Y X;refine bD (c:=uV) rfl (aeo ⟨s.1,s.2.1,s.2.2.1,s.2.2.2.1,s.2.2.2.2.2⟩ λa w s k=>?_);replace K:=K.trans k;replace g:=g.kp k;replace y:=y.kp k;replace C:=C.kp k;replace F:=F.kp k;replace I:=I.kp k;replace M:=M.kp k;replace O:=O.kp k;replace q:=k.cells q;replace r:=k.cells r;clear k;refine bD (c:=sO) rfl (bD (c:=sqL sO) rfl (aep s g y C q r λa w s k=>?_));replace K:=K.trans k;replace F:=F.kp k;replace I:=I.kp k;replace M:=M.kp k;replace O:=O.kp k;clear k g y C q r;generalize U:(.code (sqR sO)::[]:List Item)=kr;simp only[sO,uV,sN,qX,pJ,oD,lZ,lu,jY,jO,jA,lv9,lv8,lv7,lv6,lv5,lv4,lv3,lv2,lv1,sqL,sqR,dV,f18,Agx];refine kZ false s ?_;simp only[Bool.false_eq_true,if_false];subst U;refine rQ (bD (c:=Io) rfl (aer s.tl F I M O λa w s k=>?_))
 show GLb _ _ [.code .ret] _ _ _
 refine rU (fn:=f18) rfl rfl ⟨K.trans k,?_⟩;have h:=s.2.2;simp only[SlA]at h;simp[h]
structure sS (w:wD) (V:BkV) (B:Bk):Prop where
 raw:kM w V B
 var:dP w
 za:aJ w V.za
 la:aJ w V.la
 ca:aJ w V.ca
 pa:aJ w V.pa
 big:tP.globals.size<=w.heap.size
theorem kM.kp(h:kM w V B)(k:Kp w u):kM u V B:=⟨h.at_.kp k,h.nz,h.nl,h.nc,h.np,h.sn,h.sp⟩
theorem sS.kp(h:sS w V B)(k:Kp w u):sS u V B:=⟨h.raw.kp k,h.var.kp k,h.za.kp k,h.la.kp k,h.ca.kp k,h.pa.kp k,Agd h.big k.size⟩
def sS.gbk(h:sS w V B)(e:gG B=false):GBk w V B:=⟨(h.raw.in e).1,h.var,h.za,h.la,h.ca,h.pa,h.big⟩
def aes(h:lX B=true):gG B=false/\aV B=0:=by unfold lX at h;simpa using h
section
variable {f:FuncId} {fn:Func} {N:Nat} {c:Code} {R:vL->wD->Prop} {k:List Item} {a:Act} {w:wD} {l l':List (Nat×vL)}
def iO(X:wD->Prop)(E:∀u C d,X (u.tp C d noJ)->X u)(v:tP.funcs[f]? =some fn)(y:tP.inits.idxOf? f=none)(D:Sl a N l)(hc:fE tP (tF tP) (tG tP) c=true)(A:codeOk true c=true)(h:∀W,Kp w W->c.wp tP (λe p g=>e=.normal/\p.defers=[]/\Sl p N l'/\Kp w g/\X g) a W)(K:∀p g,Sl p N l'->Kp w g->X g->GLb tP (Aks f) k R p g):GLb tP (Aks f) (.code c::k) R a w:=
 fP (S:=λa g=>Sl a N l'/\Kp w g/\X g) ⟨fn,v,y⟩ xN D.2.1 hc A (λa g C d ⟨q,h2,r⟩=>⟨q,Kp.tp_r.1 h2,E _ _ _ r⟩) (λC=>h _ (Kp.tp_r.2 (.refl _))) λp g _ ⟨q,h2,r⟩=>K p g q h2 r
end
end Go.Proofs.Y
namespace Go.Proofs.Y
open Go.RowKit Go.Tp Go.Meter
theorem Ip(p:Int->Int):∀(g:List Int) (b:Int×Int),b.2=p b.1->(∀t∈g,b.1<=t)->g.Pairwise (· < ·)->(dR p g b).2=p (dR p g b).1/\((dR p g b).1=b.1\/(dR p g b).1∈g)/\(dR p g b).2<=b.2/\((dR p g b).2=b.2->(dR p g b).1=b.1)/\∀t∈g,(dR p g b).2<=p t/\(p t=(dR p g b).2->(dR p g b).1<=t)
 |[],b,h,_,_=>⟨h,.inl rfl,Int.le_refl _,λ_=>rfl,λ_ h=>by cases h⟩
 |t::g,b,h,hl,hp=>by
  have e:dR p (t::g) b=dR p g (if p t<b.2 then(t,p t)else b):=rfl;rw[e];have r:=Alm.1 hp;by_cases hlt:p t<b.2
  ·simp only[hlt,if_true];obtain⟨y,h2,v,h4,h5⟩:=Ip p g (t,p t) rfl (λs q=>Int.le_of_lt (r.1 s q)) r.2;simp only at h2 v h4;refine⟨y,?_,zP,λe=>zP,λs q=>?_⟩
   ·rcases h2 with h2|h2
    ·exact .inr (by rw[h2];exact Aah)
    exact .inr (Rf _ h2)
   rcases Ab3.1 q with rfl|q
   ·exact⟨v,λe=>by rw[h4 e.symm];exact Int.le_refl _⟩
   exact h5 s q
  simp only[hlt,if_false];obtain⟨y,h2,v,h4,h5⟩:=Ip p g b h (λs q=>hl s (Rf _ q)) r.2;refine⟨y,?_,v,h4,λs q=>?_⟩
  ·rcases h2 with h2|h2
   ·exact .inl h2
   exact .inr (Rf _ h2)
  rcases Ab3.1 q with rfl|q
  ·exact⟨zP,λe=>by rw[h4 zP];exact hl _ Aah⟩
  exact h5 s q
def aeu(a b:Int):(bg a b).Pairwise (· < ·):=by unfold bg;rw[List.pairwise_map];exact List.pairwise_lt_range.imp λh=>by omega
def aev(p:Int->Int){a e:Int}(h:a<=e):(dR p (bg a e) (a,p a)).2=p (dR p (bg a e) (a,p a)).1/\(a<=(dR p (bg a e) (a,p a)).1/\(dR p (bg a e) (a,p a)).1<=e)/\∀t,a<=t->t<=e->(dR p (bg a e) (a,p a)).2<=p t/\(p t=(dR p (bg a e) (a,p a)).2->(dR p (bg a e) (a,p a)).1<=t):=by
 obtain⟨g,h2,v,h4,h5⟩:=Ip p (bg a e) (a,p a) rfl (λt r=>(yK.1 r).1) (aeu a e);refine⟨g,?_,λt h6 q=>h5 t (yK.2 ⟨h6,q⟩)⟩
 rcases h2 with h2|h2
 ·rw[h2];exact⟨Int.le_refl _,h⟩
 exact yK.1 h2
theorem PY(P:Nat->Bool):∀(n k:Nat),k<=jd P n k/\jd P n k<=k+n/\(jd P n k<k+n->P (jd P n k)=false)/\(k<jd P n k->P (jd P n k-1)=true)
 |0,k=>⟨Alr _,Alr _,(λh=>absurd h (Alp _)),λh=>absurd h (Alp _)⟩
 |n+1,k=>by
  unfold jd
  split
  ·rename_i g;obtain⟨q,h2,p,h4⟩:=PY P n (k+1);refine⟨zP,zP,λh=>p zP,λh=>?_⟩;by_cases e:jd P n (k+1)=k+1
   ·rw[e];exact g
   exact h4 zP
  rename_i g;exact⟨Alr _,zP,(λ_=>by simpa using g),λh=>absurd h (Alp _)⟩
def Iq{B:Bk}{d:Int}(e:aV B=0)(g:0<=d/\d<=999):eH B d=if B.zoneIx d=none then 9 else 0:=by unfold eH;rw[if_neg (by simp[e]),if_neg (by simp[btw,g])]
def PZ{B:Bk}{d n f t:Int}(p:aV B=0)(q:0<=d/\d<=999)(hn:0<=n/\n<=200)(r:0<=f/\f<=t)(v:t<=200):jy B d n f t=if B.zoneIx d=none then 9 else 0:=by
 unfold jy;rw[Iq p q];by_cases e:B.zoneIx d=none
 ·simp[e]
 have g:eP [n,f,t]=true:=by simp[eP,btw];omega
 simp[e,g];omega
def P5{B:Bk}{d f m:Int}(g:aV B=0)(p:0<=d/\d<=999)(q:0<=f/\f<=200)(r:0<=m/\m<=9999):jL B d f m=if B.zoneIx d=none then 9 else 0:=by
 unfold jL;rw[Iq g p];by_cases e:B.zoneIx d=none
 ·simp[e]
 simp[e,btw,q,r]
def CX{B:Bk}{d a e:Int}(p:aV B=0)(q:0<=d/\d<=999)(r:B.zoneIx d≠none)(v:0<=a/\a<=e)(he:e<=200):jw B d a e=0/\jW B d a e=B.price d a e:=by
 have h:jw B d a e=0:=by
  unfold jw;rw[Iq p q];have g:eP [a,e]=true:=by simp[eP,btw];omega
  simp[r,g];omega
 exact⟨h,by unfold jW;rw[if_pos h]⟩
def aew{B:Bk}{d n f t m:Int}(y:aV B=0)(A:0<=d/\d<=999)(D:B.zoneIx d≠none)(hn:0<=n/\n<=49)(C:0<=f/\f<=t)(H:t<=200)(G:0<=m/\m<=9999):
 jy B d n f t=0/\jL B d f m=0/\(f<=(dY B d n f t).1/\(dY B d n f t).1<=t)/\(0<=iM B d f m/\iM B d f m<=200)/\(dY B d n f t).2=B.price d (dY B d n f t).1 ((dY B d n f t).1+n)/\
  (∀x,f<=x->x<=t->¬B.price d x (x+n)<(dY B d n f t).2/\¬(B.price d x (x+n)=(dY B d n f t).2/\x<(dY B d n f t).1))/\
  (f+iM B d f m<=200->B.price d f (f+iM B d f m)<=m)/\(f+iM B d f m+1<=200->m<B.price d f (f+iM B d f m+1)):=by
 have a1:jy B d n f t=0:=by rw[PZ y A zP C H,if_neg D]
 have a2:jL B d f m=0:=by rw[P5 y A zP G,if_neg D]
 have K:dY B d n f t=dR (pI B d n) (bg f t) (f,pI B d n f):=if_pos a1;have p:iM B d f m=((jd (jX B d f m) 200 0 :Nat):Int):=if_pos a2;obtain⟨r,h2,v⟩:=aev (pI B d n) C.2;obtain⟨M,O,I,J⟩:=PY (jX B d f m) 200 0;rw[<-K]at r h2 v;refine⟨a1,a2,h2,by rw[p];omega,r,λx hx g=>?_,λh=>?_,λh=>?_⟩
 ·obtain⟨E,q⟩:=v x hx g;have F:pI B d n x=B.price d x (x+n):=rfl;rw[F]at E q;exact⟨zP,λ⟨e,hlt⟩=>by have:=q e;omega⟩
 ·rw[p]at h⊢;generalize jd (jX B d f m) 200 0=L at*;by_cases e:L=0
  ·subst e;have:B.price d f (f+((0 :Nat):Int))=0:=by unfold Bk.price;rw[if_pos zP]
   rw[this];omega
  have:=J zP;unfold jX at this;have h5:=of_decide_eq_true this;rwa [show f+((L-1 :Nat):Int)+1=f+(L:Int) by omega]at h5
 rw[p]at h⊢;generalize jd (jX B d f m) 200 0=L at*;have:=I zP;unfold jX at this;have h5:=of_decide_eq_false this;omega
end Go.Proofs.Y
namespace Go.Proofs.Y
open Go.RowKit Go.Tp Go.Meter Go.Conc Go.ConcN
abbrev ms0(long m pr at_ t f n d:Int)(b:Nat)(a4:Int):List (Nat×vL):=[(23,iN qi long),(22,iN qi m),(21,iN qi 0),(20,iN qi pr),(19,iN qi at_),(17,iN qi t),(16,iN qi f),(18,iN qi n),(15,iN qi d),(7,pN (some ⟨b,0,none⟩)),(5,.int .u8 a4)]
abbrev ms1(a1 pr at_ t f n d:Int)(b:Nat)(a4:Int):List (Nat×vL):=[(21,iN qi a1),(20,iN qi pr),(19,iN qi at_),(17,iN qi t),(16,iN qi f),(18,iN qi n),(15,iN qi d),(7,pN (some ⟨b,0,none⟩)),(5,.int .u8 a4)]
abbrev ms2(d:Int)(b:Nat)(a4 mon:Int):List (Nat×vL):=[(15,iN qi d),(7,pN (some ⟨b,0,none⟩)),(5,.int .u8 a4),(6,.int .u16 mon)]
abbrev ms3(b:Nat)(far a1 a2 a3 a4 mon:Int):List (Nat×vL):=[(7,pN (some ⟨b,0,none⟩)),(1,.int .u16 far),(2,.int .u8 a1),(3,.int .u8 a2),(4,.int .u8 a3),(5,.int .u8 a4),(6,.int .u16 mon)]
abbrev ms4(b:Nat)(a1 a2 a3 a4 mon:Int):List (Nat×vL):=[(7,pN (some ⟨b,0,none⟩)),(2,.int .u8 a1),(3,.int .u8 a2),(4,.int .u8 a3),(5,.int .u8 a4),(6,.int .u16 mon)]
abbrev ms5(t f n d:Int)(b:Nat)(a4 mon:Int):List (Nat×vL):=((17,iN qi t)::(16,iN qi f)::(18,iN qi n)::ms2 d b a4 mon)
section
variable {f:FuncId} {a:Act} {w:wD} {k:List Item} {ops:Array Oper} {i d N:Nat} {rest:List Nat} {o:Oper} {l:List (Nat×vL)} {R:vL->wD->Prop}
def wV(v:vL)(y:Sl a N l)(h:∀q,Sl q N ((d,v)::l)->GLb tP (Go.Conc.base f) (.inRegion ops rest::k) R q w)(p:OpG tP ops i o:=by exact okG rfl)(E:Region.wanted o (yielded ops a.tmps)=true:=by have h:=(‹Sl _ _ _›).2.2;simp only[SlA]at h;exact fU rfl rfl (by simp only[h]))(g:o.dst=some d:=by rfl)(D:d<N:=by decide)(hn:(l.map (·.1)).contains d=false:=by rfl)(hr:∀τ r,(execOp a.eval o).run tP (w.tp τ r noJ)=.ok (.value v) (w.tp τ r noJ):=by intro τ d;have h:=(‹Sl _ _ _›).2.2;simp only[SlA]at h;simp[go_sem,h]):GLb tP (Go.Conc.base f) (.inRegion ops (i::rest)::k) R a w:=
 yB (S:=λx A=>x=v/\∃τ d,A=w.tp τ d noJ) p.at_ p.sim p.ok p.nocall E xN (λτ d=>⟨_,_,hr τ d,rfl,τ,d,rfl⟩) λx A ⟨e,τ,d,C⟩=>by subst e C;rw[g];exact wo (h _ (y.put (dU a x (by rw[y.1];exact D)) hn))
def P6{g:FuncId}{fn:Func}{args:Array vL}{y:Array Operand}{ats:Array TypeId}{E:vL->wD->Prop}(p:bT tP g args w E)(G:Sl a N l)(h:∀F v H,E v H->Sl F N ((d,v)::l)->GLb tP (Go.Conc.base f) (.inRegion ops rest::k) R F H)(K:ops[i]? =some o:=by rfl)(D:o.op=.call {callee:=.value (.func g),args:=y,argTypes:=ats}:=by rfl)(M:Region.wanted o (yielded ops a.tmps)=true:=by have h:=(‹Sl _ _ _›).2.2;simp only[SlA]at h;exact fU rfl rfl (by simp only[h]))(C:tP.funcs[g]? =some fn:=by rfl)(q:(fn.name== "runtime.NumGoroutine")=false:=by rfl)(A:fn.body.isNone=false:=by rfl)(r:o.dst=some d:=by rfl)(I:y.all (aU (tF tP) (tG tP))=true:=by kernel_rfl)(J:d<N:=by decide)(hn:(l.map (·.1)).contains d=false:=by rfl)(he:y.map a.eval=args:=by have h:=(‹Sl _ _ _›).2.2;simp only[SlA]at h;simp[Act.eval,h]):GLb tP (Go.Conc.base f) (.inRegion ops (i::rest)::k) R a w:=
 PV K D M C q A xN I (by rw[he];exact p) λv O L=>by rw[r];exact h _ v O L (G.put (dU a v (by rw[G.1];exact J)) hn)
end
def mc0:Afz:=(f7.body).getD .skip
def mc1:Afz:=sqR mc0
def mc2:Afz:=sqR mc1
def mc3:Afz:=sqR mc2
def mc4:Afz:=sqR mc3
def mc5:Afz:=sqR mc4
def mc6:Afz:=sqR mc5
def mc7:Afz:=sqR mc6
def mc8:Afz:=sqR mc7
def mc9:Afz:=sqR mc8
def iP:Afz:=sqR mc9
def iQ:Afz:=sqR iP
def lC:Afz:=sqR iQ
def lF:Afz:=sqR lC
def wW:Afz:=sqR lF
section
variable {R:vL->wD->Prop} {k:List Item} {a:Act} {w:wD} {b:Nat} {V:BkV} {B:Bk} {far a1 a2 a3 a4 mon d n f t m at_ long pr x:Int}
def aex(K:∀g v b,Sl g 214 (ms3 b far a1 a2 a3 a4 mon)->Kp w v->Cells v (aB b V B)->GLb tP (Aks 7) k R g v):GLb tP (Aks 7) (.code (sqL mc0)::k) R {tmps:=#[V.val B,.int .u16 far,.int .u8 a1,.int .u8 a2,.int .u8 a3,.int .u8 a4,.int .u16 mon]++Array.replicate (f7.ntmps-7) ud,defers:=[]} w:=by
 refine fP (S:=λg u=>∃b:Nat,Sl g 214 (ms3 b far a1 a2 a3 a4 mon)/\Kp w u/\Cells u (aB b V B)) ⟨f7,rfl,xD⟩ xN rfl xD xD (λa u A d ⟨b,p,h2,q⟩=>⟨b,p,Kp.tp_r.1 h2,gX.1 q⟩) (λA=>?_) λg u _ ⟨b,p,h2,q⟩=>K g u b p h2 q;obtain⟨W,r⟩:∃W,W=w.tp A 0 noJ:=⟨_,rfl⟩;have y:Kp w W:=by rw[r];exact Kp.tp_r.2 (.refl _)
 rw[<-r];clear r;have C:=lH y;clear y;obtain⟨za,la,D,pa,zc,lc,cc,pc⟩:=V;simp only[mc0,sqL,f7,Agx,Array.replicate_succ,Array.replicate_zero,List.push_toArray,List.append_toArray,List.nil_append,List.cons_append,Nat.reduceSub];go_wp2;refine⟨W.heap.size,xT,C.out.trans (Kp.alloc _ _),?_⟩;simp only[aB,Cells,and_true];go_simp
def aey(v:sS w V B)(hc:Cells w (aB b V B))(y:Sl a 214 (ms3 b far a1 a2 a3 a4 mon))(K:∀g q,Sl g 214 ((35,.bool (!lX B))::ms3 b far a1 a2 a3 a4 mon)->Kp w q->GLb tP (Aks 7) k R g q):GLb tP (Aks 7) (.code (sqL (sqL mc1))::k) R a w:=by
 refine iO (l':=((35,.bool (!lX B))::ms3 b far a1 a2 a3 a4 mon)) (λ_=>True) (λ_ _ _ _=>trivial) (fn:=f7) rfl xD y xD xD (λW p=>?_) λg q D h2 _=>K g q D h2;have r:=p.cells hc;have H:=lH (c32 V B W (v.kp p).raw);have C:=lH p;clear p v hc;obtain⟨za,la,O,pa,zc,lc,cc,pc⟩:=V;obtain⟨Q,q1,q2,q3,q4,q5,q6,-⟩:=r;obtain⟨S,rfl,M,E,F,G,I,J,L,-⟩:=y.lit;simp only[mc1,mc0,sqL,sqR,f7,Agx,up,Akz,M,E,F,G,I,J,L]
 go_wp2_with (go_at_call 32;refine H.out.mono ?_;rintro e u ⟨rfl,A⟩;have Hb:=lH A;clear A)
 exact⟨xT,C.out.trans (Kp.of_below Hb.out)⟩
def aez(h1:0<=far/\far<=65535)(p:Sl a 214 (ms3 b far a1 a2 a3 a4 mon))(K:∀e g,Sl e 214 ((15,iN qi (far % 1000))::ms4 b a1 a2 a3 a4 mon)->Kp w g->GLb tP (Aks 7) k R e g):GLb tP (Aks 7) (.code (sqL mc2)::k) R a w:=by refine iO (l':=((15,.int qi (far % 1000))::ms4 b a1 a2 a3 a4 mon)) (λ_=>True) (λ_ _ _ _=>trivial) (fn:=f7) rfl xD p xD xD (λW q=>?_) λe g h1 h2 _=>K e g h1 h2;have r:=lH q;clear q;obtain⟨G,rfl,F,v,y,A,C,D,E,-⟩:=p.lit;simp only[mc2,mc1,mc0,sqL,sqR,f7,Agx,up,Akz,F,v,y,A,C,D,E];go_wp2;exact⟨xT,r.out⟩
def aeA(h1:0<=a1/\a1<=255)(h2:0<=a2/\a2<=255)(h3:0<=a3/\a3<=255)(q:Sl a 214 ((15,iN qi d)::ms4 b a1 a2 a3 a4 mon))(K:∀e g,Sl e 214 ((18,iN qi (a3 % 50))::(17,iN qi (a2 % 201))::(16,iN qi (a1 % 201))::ms2 d b a4 mon)->Kp w g->GLb tP (Aks 7) k R e g):GLb tP (Aks 7) (.code (sqL mc3)::k) R a w:=by refine iO (l':=((18,.int qi (a3 % 50))::(17,.int qi (a2 % 201))::(16,.int qi (a1 % 201))::ms2 d b a4 mon)) (λ_=>True) (λ_ _ _ _=>trivial) (fn:=f7) rfl xD q xD xD (λW r=>?_) λe g h1 h2 _=>K e g h1 h2;have v:=lH r;clear r;obtain⟨G,rfl,p,F,y,A,C,D,E,-⟩:=q.lit;simp only[mc3,mc2,mc1,mc0,sqL,sqR,f7,Agx,up,Akz,p,F,y,A,C,D,E];go_wp2;exact⟨xT,v.out⟩
def aeB(y:Sl a 214 ((18,iN qi n)::(17,iN qi a2)::(16,iN qi a1)::ms2 d b a4 mon))(K:∀e g,Sl e 214 ((17,iN qi (max a1 a2))::(16,iN qi (min a1 a2))::(18,iN qi n)::ms2 d b a4 mon)->Kp w g->GLb tP (Aks 7) k R e g):GLb tP (Aks 7) (.code (sqL mc4)::k) R a w:=by refine iO (l':=((17,.int qi (max a1 a2))::(16,.int qi (min a1 a2))::(18,.int qi n)::ms2 d b a4 mon)) (λ_=>True) (λ_ _ _ _=>trivial) (fn:=f7) rfl xD y xD xD (λW A=>?_) λe g D h2 _=>K e g D h2;have C:=lH A;clear A;obtain⟨H,rfl,v,r,q,p,G,E,F,-⟩:=y.lit;simp only[mc4,mc3,mc2,mc1,mc0,sqL,sqR,f7,Agx,up,Akz,v,r,q,p,G,E,F];go_wp2;exact⟨xT,C.out⟩
def aeC(D:LvS w b V B)(E:Sl a 214 (ms5 t f n d b a4 mon))(K:∀p q,Sl p 214 ((21,iN qi (jy B d n f t))::(20,iN qi (dY B d n f t).2)::(19,iN qi (dY B d n f t).1)::ms5 t f n d b a4 mon)->Kp w q->GLb tP (Aks 7) k R p q):GLb tP (Aks 7) (.code (sqL mc5)::k) R a w:=by
 refine iO (l':=((21,.int qi (jy B d n f t))::(20,.int qi (dY B d n f t).2)::(19,.int qi (dY B d n f t).1)::ms5 t f n d b a4 mon)) (λ_=>True) (λ_ _ _ _=>trivial) (fn:=f7) rfl xD E xD xD (λW r=>?_) λp q I h2 _=>K p q I h2;have g:=D.kp r;have hc:=g.cells;have H:=lH (c41 V B d n f t W g.gbk.bk g.gbk.var);have G:=lH r;clear r g D;obtain⟨za,la,O,pa,zc,lc,cc,pc⟩:=V;obtain⟨Q,q1,q2,q3,q4,q5,q6,-⟩:=hc;obtain⟨S,rfl,A,y,C,v,M,J,L,-⟩:=E.lit;simp only[mc5,mc4,mc3,mc2,mc1,mc0,sqL,sqR,f7,Agx,up,Akz,A,y,C,v,M,J,L]
 go_wp2_with (go_at_call 41;refine H.out.mono ?_;rintro e u ⟨rfl,F⟩;have Hb:=lH F;clear F)
 exact⟨xT,G.out.trans (Kp.of_below Hb.out)⟩
def aeD(h1:0<=mon/\mon<=65535)(D:Sl a 214 ((21,iN qi a1)::(20,iN qi pr)::(19,iN qi at_)::ms5 t f n d b a4 mon))(K:∀e g,Sl e 214 ((22,iN qi (mon % 10000))::ms1 a1 pr at_ t f n d b a4)->Kp w g->GLb tP (Aks 7) k R e g):GLb tP (Aks 7) (.code (sqL mc6)::k) R a w:=by refine iO (l':=((22,.int qi (mon % 10000))::ms1 a1 pr at_ t f n d b a4)) (λ_=>True) (λ_ _ _ _=>trivial) (fn:=f7) rfl xD D xD xD (λW E=>?_) λe g h1 h2 _=>K e g h1 h2;have F:=lH E;clear E;obtain⟨J,rfl,C,A,y,r,q,v,p,I,G,H,-⟩:=D.lit;simp only[mc6,mc5,mc4,mc3,mc2,mc1,mc0,sqL,sqR,f7,Agx,up,Akz,C,A,y,r,q,v,p,I,G,H];go_wp2;exact⟨xT,F.out⟩
def aeE(I:LvS w b V B)(J:Sl a 214 ((22,iN qi m)::ms1 a1 pr at_ t f n d b a4))(K:∀p q,Sl p 214 ((24,iN qi (jL B d f m))::(23,iN qi (iM B d f m))::(22,iN qi m)::ms1 a1 pr at_ t f n d b a4)->Kp w q->GLb tP (Aks 7) k R p q):GLb tP (Aks 7) (.code (sqL mc7)::k) R a w:=by
 refine iO (l':=((24,.int qi (jL B d f m))::(23,.int qi (iM B d f m))::(22,.int qi m)::ms1 a1 pr at_ t f n d b a4)) (λ_=>True) (λ_ _ _ _=>trivial) (fn:=f7) rfl xD J xD xD (λW r=>?_) λp q O h2 _=>K p q O h2;have g:=I.kp r;have hc:=g.cells;have H:=lH (c42 V B d f m W g.gbk.bk g.gbk.var);have M:=lH r;clear r g I;obtain⟨za,la,T,pa,zc,lc,cc,pc⟩:=V;obtain⟨U,q1,q2,q3,q4,q5,q6,-⟩:=hc;obtain⟨X,rfl,G,F,E,D,A,y,C,v,S,Q,-⟩:=J.lit;simp only[mc7,mc6,mc5,mc4,mc3,mc2,mc1,mc0,sqL,sqR,f7,Agx,up,Akz,G,F,E,D,A,y,C,v,S,Q]
 go_wp2_with (go_at_call 42;refine H.out.mono ?_;rintro e u ⟨rfl,L⟩;have Hb:=lH L;clear L)
 exact⟨xT,M.out.trans (Kp.of_below Hb.out)⟩
def aeF(h1:¬at_<f)(h2:¬at_>t)(h3:btw long 0 200=true)(H:Sl a 214 ((24,iN qi 0)::ms0 long m pr at_ t f n d b a4))(K:∀g p,Sl g 214 ((24,iN qi 0)::ms0 long m pr at_ t f n d b a4)->Kp w p->GLb tP (Aks 7) k R g p):GLb tP (Aks 7) (.code (sqL mc9)::k) R a w:=by
 refine iO (l':=((24,.int qi 0)::ms0 long m pr at_ t f n d b a4)) (λ_=>True) (λ_ _ _ _=>trivial) (fn:=f7) rfl xD H xD xD (λW I=>?_) λg p h1 h2 _=>K g p h1 h2;have J:=lH I;clear I;obtain⟨O,rfl,G,F,E,D,C,A,v,r,y,q,M,L,-⟩:=H.lit;simp only[mc9,mc8,mc7,mc6,mc5,mc4,mc3,mc2,mc1,mc0,sqL,sqR,f7,Agx,up,Akz,G,F,E,D,C,A,v,r,y,q,M,L]
 go_wp2_with (go_at_call 43;refine(b43 _ _ _ _).mono ?_;rw[h3];rintro e u ⟨rfl,rfl⟩)
 exact⟨xT,J.out⟩
def aeG(r:(0<=at_/\at_<=200)/\0<=n/\n<=200)(h0:at_+n<=200)(L:jW B d at_ (at_+n)=pr)(M:jw B d at_ (at_+n)=0)(O:LvS w b V B)(Q:Sl a 214 (ms0 long m pr at_ t f n d b a4))(K:∀p q,Sl p 214 (ms0 long m pr at_ t f n d b a4)->Kp w q->GLb tP (Aks 7) k R p q):GLb tP (Aks 7) (.code (sqL iP)::k) R a w:=by
 refine iO (l':=(ms0 long m pr at_ t f n d b a4)) (λ_=>True) (λ_ _ _ _=>trivial) (fn:=f7) rfl xD Q xD xD (λW v=>?_) λp q T h2 _=>K p q T h2;have U:(pr !=pr)=false:=yW
 have g:=O.kp v;have hc:=g.cells;have H:=c44 V B d at_ (at_+n) W g.gbk.bk g.gbk.var;rw[L,M]at H;replace H:=lH H;clear L M;have S:=lH v;clear v g O;obtain⟨za,la,Z,pa,zc,lc,cc,pc⟩:=V;obtain⟨q0,q1,q2,q3,q4,q5,q6,-⟩:=hc;obtain⟨tt,rfl,J,I,G,F,E,C,A,D,y,Y,X,-⟩:=Q.lit;simp only[iP,mc9,mc8,mc7,mc6,mc5,mc4,mc3,mc2,mc1,mc0,sqL,sqR,f7,Agx,up,Akz,J,I,G,F,E,C,A,D,y,Y,X]
 go_wp2_with (go_at_call 44;refine H.out.mono ?_;rintro e u ⟨rfl,r⟩;have Hb:=lH r;clear r)
 exact⟨xT,S.out.trans (Kp.of_below Hb.out)⟩
def aeH(O:(0<=at_/\at_<=200)/\0<=n/\n<=200)(M:¬at_+n<=200)(F:Sl a 214 (ms0 long m pr at_ t f n d b a4))(K:∀e g,Sl e 214 (ms0 long m pr at_ t f n d b a4)->Kp w g->GLb tP (Aks 7) k R e g):GLb tP (Aks 7) (.code (sqL iP)::k) R a w:=by refine iO (l':=(ms0 long m pr at_ t f n d b a4)) (λ_=>True) (λ_ _ _ _=>trivial) (fn:=f7) rfl xD F xD xD (λW G=>?_) λe g I h2 _=>K e g I h2;have H:=lH G;clear G;obtain⟨Q,rfl,E,D,C,A,y,r,q,v,p,L,J,-⟩:=F.lit;simp only[iP,mc9,mc8,mc7,mc6,mc5,mc4,mc3,mc2,mc1,mc0,sqL,sqR,f7,Agx,up,Akz,E,D,C,A,y,r,q,v,p,L,J];go_wp2;exact⟨xT,H.out⟩
def aeI(S:(0<=f/\f<=t/\t<=200)/\0<=a4/\a4<=255)(H:Sl a 214 (ms0 long m pr at_ t f n d b a4))(K:∀e g,Sl e 214 ((27,iN qi (f+a4 % (t-f+1)))::ms0 long m pr at_ t f n d b a4)->Kp w g->GLb tP (Aks 7) k R e g):GLb tP (Aks 7) (.code (sqL (sqL iQ))::k) R a w:=by
 refine iO (l':=((27,iN qi (f+a4 % (t-f+1)))::ms0 long m pr at_ t f n d b a4)) (λ_=>True) (λ_ _ _ _=>trivial) (fn:=f7) rfl xD H xD xD (λW I=>?_) λe g L h2 _=>K e g L h2;have p:¬t-f+1=0:=zP
 have q:0<t-f+1:=zP
 have M:0<=a4 % (t-f+1)/\a4 % (t-f+1)<t-f+1:=⟨Int.emod_nonneg _ p,Int.emod_lt_of_pos _ q⟩;have J:=lH I;clear I;obtain⟨T,rfl,G,F,E,D,C,y,v,A,r,Q,O,-⟩:=H.lit;simp only[iQ,iP,mc9,mc8,mc7,mc6,mc5,mc4,mc3,mc2,mc1,mc0,sqL,sqR,f7,Agx,up,Akz,G,F,E,D,C,y,v,A,r,Q,O];go_wp2;exact⟨xT,J.out⟩
def aeJ(p:(0<=x/\x<=200)/\0<=n/\n<=200)(h0:x+n<=200){q:Int}(T:jW B d x (x+n)=q)(U:jw B d x (x+n)=0)(g1:¬q<pr)(A:¬(q=pr/\x<at_))(X:LvS w b V B)(Y:Sl a 214 ((27,iN qi x)::ms0 long m pr at_ t f n d b a4))(K:∀v y,Sl v 214 (ms0 long m pr at_ t f n d b a4)->Kp w y->GLb tP (Aks 7) k R v y):GLb tP (Aks 7) (.code (sqR (sqL iQ))::k) R a w:=by
 refine iO (l':=(ms0 long m pr at_ t f n d b a4)) (λ_=>True) (λ_ _ _ _=>trivial) (fn:=f7) rfl xD Y xD xD (λW C=>?_) λv y h1 h2 _=>K v y h1 h2;have g:=X.kp C;have hc:=g.cells;have H:=c44 V B d x (x+n) W g.gbk.bk g.gbk.var;rw[T,U]at H;replace H:=lH H;clear T U;have S:=lH C;clear C g X;obtain⟨za,la,ca,pa,zc,lc,cc,pc⟩:=V;obtain⟨q0,q1,q2,q3,q4,q5,q6,-⟩:=hc;obtain⟨tt,rfl,Q,O,M,L,J,I,F,E,G,D,s7,s5,-⟩:=Y.lit;simp only[iQ,iP,mc9,mc8,mc7,mc6,mc5,mc4,mc3,mc2,mc1,mc0,sqL,sqR,f7,Agx,up,Akz,Q,O,M,L,J,I,F,E,G,D,s7,s5];by_cases r:q=pr
 ·have g4:¬x<at_:=λh=>A ⟨r,h⟩;have Z:(q==pr)=true:=by simpa using r
  clear A r
  go_wp2_with (go_at_call 44;refine H.out.mono ?_;rintro e u ⟨rfl,p⟩;have Hb:=lH p;clear p)
  exact⟨xT,S.out.trans (Kp.of_below Hb.out)⟩
 have Z:(q==pr)=false:=by simpa using r
 clear A r
 go_wp2_with (go_at_call 44;refine H.out.mono ?_;rintro e u ⟨rfl,p⟩;have Hb:=lH p;clear p)
 exact⟨xT,S.out.trans (Kp.of_below Hb.out)⟩
def aeK(Q:(0<=x/\x<=200)/\0<=n/\n<=200)(O:¬x+n<=200)(G:Sl a 214 ((27,iN qi x)::ms0 long m pr at_ t f n d b a4))(K:∀e g,Sl e 214 (ms0 long m pr at_ t f n d b a4)->Kp w g->GLb tP (Aks 7) k R e g):GLb tP (Aks 7) (.code (sqR (sqL iQ))::k) R a w:=by refine iO (l':=(ms0 long m pr at_ t f n d b a4)) (λ_=>True) (λ_ _ _ _=>trivial) (fn:=f7) rfl xD G xD xD (λW H=>?_) λe g J h2 _=>K e g J h2;have I:=lH H;clear H;obtain⟨S,rfl,F,E,D,C,A,y,r,q,v,p,M,L,-⟩:=G.lit;simp only[iQ,iP,mc9,mc8,mc7,mc6,mc5,mc4,mc3,mc2,mc1,mc0,sqL,sqR,f7,Agx,up,Akz,F,E,D,C,A,y,r,q,v,p,M,L];go_wp2;exact⟨xT,I.out⟩
def aeL(v:(0<=f/\f<=200)/\0<=long/\long<=200)(h0:f+long<=200){q:Int}(M:jW B d f (f+long)=q)(O:jw B d f (f+long)=0)(g1:¬q>m)(Q:LvS w b V B)(S:Sl a 214 (ms0 long m pr at_ t f n d b a4))(K:∀p r,Sl p 214 (ms0 long m pr at_ t f n d b a4)->Kp w r->GLb tP (Aks 7) k R p r):GLb tP (Aks 7) (.code (sqL lC)::k) R a w:=by
 refine iO (l':=(ms0 long m pr at_ t f n d b a4)) (λ_=>True) (λ_ _ _ _=>trivial) (fn:=f7) rfl xD S xD xD (λW y=>?_) λp r U h2 _=>K p r U h2;have g:=Q.kp y;have hc:=g.cells;have H:=c44 V B d f (f+long) W g.gbk.bk g.gbk.var;rw[M,O]at H;replace H:=lH H;clear M O;have T:=lH y;clear y g Q;obtain⟨za,la,Z,pa,zc,lc,cc,pc⟩:=V;obtain⟨q0,q1,q2,q3,q4,q5,q6,-⟩:=hc;obtain⟨tt,rfl,L,J,I,G,F,D,C,E,A,Y,X,-⟩:=S.lit;simp only[lC,iQ,iP,mc9,mc8,mc7,mc6,mc5,mc4,mc3,mc2,mc1,mc0,sqL,sqR,f7,Agx,up,Akz,L,J,I,G,F,D,C,E,A,Y,X]
 go_wp2_with (go_at_call 44;refine H.out.mono ?_;rintro e u ⟨rfl,v⟩;have Hb:=lH v;clear v)
 exact⟨xT,T.out.trans (Kp.of_below Hb.out)⟩
def aeM(O:(0<=f/\f<=200)/\0<=long/\long<=200)(M:¬f+long<=200)(F:Sl a 214 (ms0 long m pr at_ t f n d b a4))(K:∀e g,Sl e 214 (ms0 long m pr at_ t f n d b a4)->Kp w g->GLb tP (Aks 7) k R e g):GLb tP (Aks 7) (.code (sqL lC)::k) R a w:=by refine iO (l':=(ms0 long m pr at_ t f n d b a4)) (λ_=>True) (λ_ _ _ _=>trivial) (fn:=f7) rfl xD F xD xD (λW G=>?_) λe g I h2 _=>K e g I h2;have H:=lH G;clear G;obtain⟨Q,rfl,E,D,C,A,y,r,q,v,p,L,J,-⟩:=F.lit;simp only[lC,iQ,iP,mc9,mc8,mc7,mc6,mc5,mc4,mc3,mc2,mc1,mc0,sqL,sqR,f7,Agx,up,Akz,E,D,C,A,y,r,q,v,p,L,J];go_wp2;exact⟨xT,H.out⟩
def aeN(O:(0<=f/\f<=200)/\0<=long/\long<=200)(M:f+long+1>200)(F:Sl a 214 (ms0 long m pr at_ t f n d b a4))(K:∀e g,Sl e 214 ((191,.bool true)::ms0 long m pr at_ t f n d b a4)->Kp w g->GLb tP (Aks 7) k R e g):GLb tP (Aks 7) (.code (sqL (sqL lF))::k) R a w:=by refine iO (l':=((191,.bool true)::ms0 long m pr at_ t f n d b a4)) (λ_=>True) (λ_ _ _ _=>trivial) (fn:=f7) rfl xD F xD xD (λW G=>?_) λe g I h2 _=>K e g I h2;have H:=lH G;clear G;obtain⟨Q,rfl,E,D,C,A,y,r,q,v,p,L,J,-⟩:=F.lit;simp only[lF,lC,iQ,iP,mc9,mc8,mc7,mc6,mc5,mc4,mc3,mc2,mc1,mc0,sqL,sqR,f7,Agx,up,Akz,E,D,C,A,y,r,q,v,p,L,J];go_wp2;exact⟨xT,H.out⟩
def aeO(O:(0<=f/\f<=200)/\0<=long/\long<=200)(M:¬f+long+1>200)(F:Sl a 214 (ms0 long m pr at_ t f n d b a4))(K:∀e g,Sl e 214 ((191,.bool false)::ms0 long m pr at_ t f n d b a4)->Kp w g->GLb tP (Aks 7) k R e g):GLb tP (Aks 7) (.code (sqL (sqL lF))::k) R a w:=by refine iO (l':=((191,.bool false)::ms0 long m pr at_ t f n d b a4)) (λ_=>True) (λ_ _ _ _=>trivial) (fn:=f7) rfl xD F xD xD (λW G=>?_) λe g I h2 _=>K e g I h2;have H:=lH G;clear G;obtain⟨Q,rfl,E,D,C,A,y,r,q,v,p,L,J,-⟩:=F.lit;simp only[lF,lC,iQ,iP,mc9,mc8,mc7,mc6,mc5,mc4,mc3,mc2,mc1,mc0,sqL,sqR,f7,Agx,up,Akz,E,D,C,A,y,r,q,v,p,L,J];go_wp2;exact⟨xT,H.out⟩
def aeP(v:(0<=f/\f<=200)/\0<=long/\long<=200){q:Int}(M:jW B d f (f+long+1)=q)(O:jw B d f (f+long+1)=0)(Q:LvS w b V B)(S:Sl a 214 (ms0 long m pr at_ t f n d b a4))(K:∀p r,Sl p 214 [(32,iN qi q),(22,iN qi m),(21,iN qi 0),(7,pN (some ⟨b,0,none⟩))]->Kp w r->GLb tP (Aks 7) k R p r):GLb tP (Aks 7) (.code (sqL wW)::k) R a w:=by
 refine iO (l':=[(32,.int qi q),(22,.int qi m),(21,.int qi 0),(7,pN (some ⟨b,0,none⟩))]) (λ_=>True) (λ_ _ _ _=>trivial) (fn:=f7) rfl xD S xD xD (λW y=>?_) λp r U h2 _=>K p r U h2;have g:=Q.kp y;have hc:=g.cells;have H:=c44 V B d f (f+long+1) W g.gbk.bk g.gbk.var;rw[M,O]at H;replace H:=lH H;clear M O;have T:=lH y;clear y g Q;obtain⟨za,la,Z,pa,zc,lc,cc,pc⟩:=V;obtain⟨q0,q1,q2,q3,q4,q5,q6,-⟩:=hc;obtain⟨tt,rfl,L,J,I,G,F,D,C,E,A,Y,X,-⟩:=S.lit;simp only[wW,lF,lC,iQ,iP,mc9,mc8,mc7,mc6,mc5,mc4,mc3,mc2,mc1,mc0,sqL,sqR,f7,Agx,up,Akz,L,J,I,G,F,D,C,E,A,Y,X]
 go_wp2_with (go_at_call 44;refine H.out.mono ?_;rintro e u ⟨rfl,v⟩;have Hb:=lH v;clear v)
 exact⟨xT,T.out.trans (Kp.of_below Hb.out)⟩
end
end Go.Proofs.Y
