/- Part of a proof; no conditions. -/
import Derived.Test.YtokgkggocgpcfaaGreatDoorCheap09
import Derived.Test.YtokgkggocgpcfaaGreatDoorProg
import Derived.DyingErrors
open Go.Extern.RuntimeError renaming boundsNegErrorFmts->Akb,typeAssertionError->Akc,boundsErrorFmts->Akd,described->Akf,pkgpathOf->Akg,text->Aki,rows->Akj
open Array renaming getElem?_eq_some_iff->aS,eq_empty_of_size_eq_zero->Ake,getElem?_replicate->Ae1,mem_of_getElem?->Af3,find?_some->Ako,replicate->Afc,range->Aep
open Option renaming isNone_iff_eq_none->Akh,bind_eq_some_iff->Akk,getD_some->Agx
open List renaming getElem?_eq_getElem->lG,mem_of_getElem?->Aiq,any_eq_false->Akm,mem_flatMap->Ai1,cons_append->Akn,not_mem_nil->Aav,all_eq_true->Ah8,nil_append->Akp,mem_range->Aid,mem_cons->Ab3,getElem?_eq_some_iff->lS
open Go.World renaming block_lt_of_cell?->wBk,cell?_of_block->Ah0,size_setCell->Akl,frozen?->Aem,cell?->Aeq
open Nat renaming le_refl->nR,lt_of_lt_of_le->Ajg,le_trans->Agd,ne_of_lt->Akr,zero_le->Aih
open Go.RowKit.Below renaming heap_setCell->Aix,heap_alloc->Ai3,refl->Aj6
open Bool renaming false_eq_true->kF,not_eq_true'->Aec,and_eq_true->Aal,eq_iff_iff->Ai4
open Go.Extern renaming findNext->Akq,find->Akt
open Go.Conc renaming base->Aks
open Go.Value renaming slice->Aj5
open And renaming intro->Ajb
open Go renaming Addr->aD,Calls->cF,FuncId->fI,Value->vL,World->wD,TypeInfo->Aku,maxLen->Akv,undef->ud
open Go.RowKit renaming Below->bX
open Go.IntKind renaming i64->qi
open Go.Ending renaming returned->rT
open Go.Lib renaming hid->lH
open Go.Proofs.Tryz renaming prog->tP
open Option.some renaming injEq->oI
open Go.Proofs.Tryz
set_option maxRecDepth 100000
set_option maxHeartbeats 4000000
set_option linter.all false
namespace Go.Proofs.Y
open Go.RowKit Go.Tp Go.Meter Go.Conc
variable {w u:wD} {B:Bk} {V:BkV} {τ:Nat->Question->Nat} {d n0 m C k:Nat}
def yK{a b x:Int}:x∈bg a b↔a<=x/\x<=b:=by
 unfold bg;simp only[List.mem_map,Aid];constructor
 ·rintro⟨i,e,rfl⟩;omega
 rintro⟨c,h2⟩;exact⟨(x-a).toNat,zP,zP⟩
def ZY{c:Cl}{x:Int×Int}:x∈times c↔(c.a0<=x.1/\x.1<=c.a1)/\x.1<=x.2/\c.c0<=x.2/\x.2<=c.c1:=by
 unfold times;simp only[Ai1,List.mem_map,yK];constructor
 ·rintro⟨t,f,u,g,rfl⟩;exact⟨f,zP,zP,g.2⟩
 rintro⟨e,h2,i,h4⟩;exact⟨x.1,e,x.2,⟨zP,h4⟩,rfl⟩
theorem Gg{B:Bk}(t:B.Fine)(k:Int):∀(f:List Cl) (i:Nat) (p:Past),B.C.drop i=f->p.Ok B->∀q∈moreL k f i p,q.Ok B
 |[],i,p,_,hp,q,e=>by rw[moreL,List.mem_singleton]at e;rw[e];exact hp
 |c::f,i,p,hd,hp,q,e=>by
  have v:i<B.C.length:=by have:=congrArg List.length hd;simp at this;omega
  have s:B.C.drop (i+1)=f:=by rw[<-List.drop_drop,hd];rfl
  have hc:B.C[i]? =some c:=by have:=congrArg (λl=>l[0]?) hd;simpa[List.getElem?_drop]using this
  have g:=t.call i c hc;rw[moreL,List.mem_append]at e
  rcases e with e|e
  ·split at e
   ·exact Gg t k f (i+1) p s hp q e
   cases e
  split at e
  ·cases e
  obtain⟨x,hx,e⟩:=Ai1.1 e;obtain⟨⟨y,h2⟩,A,h4,h5⟩:=ZY.1 hx;have:=g.ans;have:=g.clr;exact Gg t k f (i+1) _ s (Past.Ok.set hp v zP zP) q e
def BQ(g:B.Fine)(l:k<B.L.length){ks:List Nat}:∀p∈B.hist (k:Int) ks,p.Ok B:=λp e=>by obtain⟨e,_⟩:=List.mem_filter.1 e;obtain⟨x,t,f,c⟩:=g.lineAt l;unfold Bk.pasts at e;obtain⟨s,q,e⟩:=Ai1.1 e;rw[f,yK]at q;have y:=yu c.digits;have v:=c.lo;have h2:=c.hi;exact Gg g k _ 0 ⟨s,λ_=>⟨false,0,0⟩⟩ rfl ⟨⟨by show 0<=s;omega,by show s<=9999;omega⟩,λi _=>⟨(λh=>by cases h),λ_=>⟨rfl,rfl⟩⟩⟩ p e
def qC(c:B.Fine)(e:k<B.L.length){ks:List Nat}:(B.hist (k:Int) ks).length<=3000:=Agd (List.length_filter_le _ _) (N7 c e)
theorem KnP.tp{b:Nat}{C:Int->Int->Sp->Int}:KnP (w.tp τ d noJ) b C↔KnP w b C:=by rw[iV];exact Iff.rfl
theorem aI.tp:aI (w.tp τ d noJ) V B↔aI w V B:=⟨λh=>h.map λ_ _ _ _ h=>by rwa [aT]at h,λh=>h.map λ_ _ _ _ h=>by rwa [aT]⟩
def aI.kp(h:aI w V B)(c:Kp w u):aI u V B:=h.map λ_ _ _ _ hc=>c.cell hc
theorem dO.kp(h:dO w V B)(c:Kp w u):dO u V B:=⟨h.at_.kp c,h.nz,h.nl,h.nc,h.np,h.lc,h.ps⟩
theorem dO.tp(h:dO w V B):dO (w.tp τ d noJ) V B:=h.kp (Kp.tp_r.2 (.refl _))
def dP.kp(h:dP w)(c:Kp w u):dP u:=⟨c.cell h.c0,c.cell h.c1,c.cell h.c2,c.cell h.c3,c.cell h.c4⟩
def aF.kp{a:Option aD}{l:List Int}(h:aF w a l)(c:Kp w u):aF u a l:=h.map λ_ _ _ _ hc=>c.cell hc
def aJ.kp{a:Option aD}(h:aJ w a)(f:Kp w u):aJ u a:=λx hx=>by obtain⟨c,t,z,e⟩:=h x hx;exact⟨c,t,z,f.obj e⟩
def _root_.Go.Meter.Bk.all(B:Bk):List Nat:=List.range B.P.length
def _root_.Go.Meter.Bk.hs(B:Bk)(k:Nat):List Past:=B.hist (k:Int) B.all
abbrev nM(V:BkV)(B:Bk)(m C:Nat):vL:=.agg #[.int qi B.day,.int qi B.D,.int qi B.U,.slice V.za B.Z.length V.zc,.slice V.la B.L.length V.lc,.slice V.ca B.C.length V.cc,.slice V.pa B.P.length V.pc,.map (some m),.slice (some ⟨C,0,none⟩) B.L.length B.L.length]
structure Opened (w:wD) (V:BkV) (B:Bk) (n0 m C:Nat):Prop where
 at_:aI w V B
 kn:KnP w m (cnt B)
 mlow:n0<=m
 clow:n0<=C
 row:∃vs,w.heap[C]? =some (.cells vs 138 (0,0))/\vs.size=B.L.length/\∀k,k<B.L.length->∃v,vs[k]? =some v/\eu w (λb=>n0<=b) (B.hs k) v
theorem Opened.tp:Opened (w.tp τ d noJ) V B n0 m C↔Opened w V B n0 m C:=by
 constructor
 ·rintro⟨c,h2,e,h4,h5⟩;refine⟨aI.tp.1 c,KnP.tp.1 h2,e,h4,?_⟩;rw[iV]at h5;exact h5
 rintro⟨c,h2,e,h4,h5⟩;refine⟨aI.tp.2 c,KnP.tp.2 h2,e,h4,?_⟩;rw[iV];exact h5
theorem Opened.grown(h:Opened w V B n0 m C)(s:w.grownBy u (some m))(l:KnP u m (cnt B)):Opened u V B n0 m C:=by
 obtain⟨F,h2,G,h4,M,q,A,D⟩:=h;obtain⟨E,c,x⟩:=h2.isMap;have f:∀b c t z,w.heap[b]? =some (Obj.cells c t z)->u.heap[b]? =w.heap[b]? :=λb c t z i=>s.block b (aS.1 i).1 λe=>by
  cases e
  rw[x]at i;cases i
 refine⟨F.grown s ⟨E,c,x⟩,l,G,h4,M,by rw[f _ _ _ _ q];exact q,A,λk l=>?_⟩;obtain⟨v,H,p⟩:=D k l;refine⟨v,H,?_⟩
 rcases p with p|⟨I,ob,g,c,J,K,y,L⟩
 ·exact .inl p
 exact .inr ⟨I,ob,g,c,J,K,by rw[f _ _ _ _ y];exact y,L⟩
def Opened.kp(h:Opened w V B n0 m C)(e:Kp w u):Opened u V B n0 m C:=by
 have c:(w.tp u.tape 0 noJ).grownBy u none:=by rw[iV];exact⟨e.os,rfl,e.output,e.size,λb f _=>e.block b f⟩
 have i:=(Opened.tp (τ:=u.tape) (d:=0)).2 h;have g:=i.kn.kept c yW;exact i.grown ⟨c.os,c.tape,c.output,c.size,λb f _=>c.block b f yW⟩ g
def Opened.hist(h:Opened w V B n0 m C)(G:k<B.L.length):∃A g,w.cell? ⟨C,k,none⟩=some (.slice A (B.hs k).length g)/\∀i p,(B.hs k)[i]? =some p->∃ob,A=some ⟨ob,0,none⟩/\ob<w.heap.size/\∀j x,(bC p)[j]? =some x->w.cell? ⟨ob,i*10+j,none⟩=some x:=by
 obtain⟨S,D,M,E⟩:=h.row;obtain⟨v,K,J⟩:=E k G;have hc:w.cell? ⟨C,k,none⟩=some v:=by simp[Aeq,D,K]
 rcases J with⟨s,rfl⟩|⟨s,ob,g,c,rfl,N,y,O,Q,L,_⟩
 ·exact⟨none,0,by rw[s];exact hc,λi p f=>by rw[s]at f;cases f⟩
 refine⟨_,g,hc,λi p f=>⟨ob,rfl,(aS.1 y).1,λj x t=>?_⟩⟩;have I:j<10:=by have:=(lS.1 t).1;simpa[bC,vT]using this
 have H:∀(l:List Past) (i:Nat),l[i]? =some p->(gQ l)[i*10+j]? =some x:=λl=>by
  induction l with
  |nil=>intro i f;cases f
  |cons q l ih=>
   intro i f;have e:gQ (q::l)=bC q++gQ l:=rfl;have F:(bC q).length=10:=rfl;rw[e]
   cases i with
   |zero=>
    cases f
    rw[List.getElem?_append_left zP,Nat.zero_mul,Nat.zero_add];exact t
   |succ i=>rw[List.getElem?_append_right zP,F,show (i+1)*10+j-10=i*10+j by omega];exact ih i f
 have:=L _ _ (H _ _ f);simp[Aeq,y,this]
def c92(V:BkV)(B:Bk)(hF:B.Fine)(n0 m C k:Nat)(hk:k<B.L.length)(t:fI)(s:Array vL)(f:Past->Int)(w:wD)(I:Opened w V B n0 m C)(ao:∀(E:Array vL) (u:wD),(callFunc t E).run tP u=.ok (.enter t E) u)(H:∀(u:wD) (p:Past),w.grownBy u (some m)->KnP u m (cnt B)->p∈B.hs k->cF tP t (#[bZ p]++s) u λe T=>e=rT (.int qi (f p))/\KnP T m (cnt B)/\u.grownBy T (some m)):
 cF tP 92 #[nM V B m C,.int qi (k:Int),.func (.func t) #[] s] w λe J=>∃r,e=rT r/\J.ownsRow w.heap.size 3 1 r (B.hs k).length (ints ((B.hs k).map f))/\KnP J m (cnt B)/\w.grownBy J (some m):=by
 obtain⟨za,la,ca,pa,zc,lc,cc,pc⟩:=V;obtain⟨oa,am,hc0,l⟩:=I.hist hk;have an:(B.hs k).length<=3000:=qC hF hk;obtain⟨R,W⟩:∃R:Nat->List vL,R=λj=>ints (((B.hs k).take j).map f):=⟨_,rfl⟩;have ac:Hid (R 0=[]):=lH (by rw[W];simp[ints]);have ad:Hid (R (B.hs k).length=ints ((B.hs k).map f)):=lH (by rw[W];simp);have aq:=I.kn.lt;obtain⟨es,cl,S⟩:=I.kn.isMap;have HG:Hid (∀j,j<(B.hs k).length->∃(p:Past) (ob:Nat),p∈B.hs k/\oa=some ⟨ob,0,none⟩/\R (j+1)=R j++[.int qi (f p)]/\∀u,w.grownBy u (some m)->Cells u [(⟨ob,j*10,none⟩,.int qi p.start),(⟨ob,j*10+1,none⟩,.bool (p.c 0).made),(⟨ob,j*10+2,none⟩,.int qi (p.c 0).ans),(⟨ob,j*10+3,none⟩,.int qi (p.c 0).clr),(⟨ob,j*10+4,none⟩,.bool (p.c 1).made),(⟨ob,j*10+5,none⟩,.int qi (p.c 1).ans),(⟨ob,j*10+6,none⟩,.int qi (p.c 1).clr),(⟨ob,j*10+7,none⟩,.bool (p.c 2).made),(⟨ob,j*10+8,none⟩,.int qi (p.c 2).ans),(⟨ob,j*10+9,none⟩,.int qi (p.c 2).clr)]):=lH λj X=>by
  obtain⟨ob,e1,e2,e3⟩:=l j _ (lG X);refine⟨(B.hs k)[j],ob,List.getElem_mem X,e1,?_,λu hu=>?_⟩
  ·rw[W];simp only;rw[List.take_add_one,lG X];simp only[Option.toList_some,List.map_append,ints,List.map_cons,List.map_nil]
  have g:=λi x h=>e3 i x h;refine Cells.grown hu (λm' aj=>by cases aj;exact⟨es,cl,S⟩) ?_;simp only[Cells,and_true];exact⟨g 0 _ rfl,g 1 _ rfl,g 2 _ rfl,g 3 _ rfl,g 4 _ rfl,g 5 _ rfl,g 6 _ rfl,g 7 _ rfl,g 8 _ rfl,g 9 _ rfl⟩
 have ai:=lH I.kn;have ap:(k:Int)<(B.L.length:Int):=zP
 clear W l;have HO:=lH I;have HH:=lH H;clear I H;have af:=wBk w _ hc0;simp only at af;generalize B.hs k=hs at*;generalize ar:hs.length=n at*;go_enter func92,ntmps92
 go_wp2_with fail
 go_loopw [7,16] (λv i wr=>∃j:Nat,j<=n/\i=.int qi (j:Int)/\Hid (wr.ownsRow w.heap.size 3 1 v j (R j))/\Hid (KnP wr m (cnt B))/\Hid (w.grownBy wr (some m))) (λ_ i _=>n-(intOf i).toNat)
 case atStart=>exact⟨0,Aih _,rfl,lH (by rw[ac.out];exact World.ownsRow_nil _ _ _ _),lH (ai.out.alloc _),lH (bY ⟨rfl,rfl,rfl,nR _,λ_ _ _=>rfl⟩ _)⟩
 case round=>
  obtain⟨j,X,rfl,q,L,U⟩:=hrel;by_cases hlt:j<n
  ·obtain⟨p,ob,hp,rfl,N,O⟩:=HG.out j hlt;have ag:=O wr U.out;obtain⟨g0,g1,g2,g3,g4,g5,g6,g7,g8,g9,-⟩:=ag;have gl:=wBk wr _ g0;simp only at gl;have ae:=lH N;clear O N;have Y:Hid (∀u,w.grownBy u (some m)->KnP u m (cnt B)->cF tP t (#[bZ p]++s) u λe T=>e=rT (.int qi (f p))/\KnP T m (cnt B)/\u.grownBy T (some m)):=lH λu h1 h2=>HH.out u p h1 h2 hp;generalize f p=y at*
   go_wp2_with fail
   refine(Y.out _ (bY U.out _) (L.out.alloc _)).mono ?_;rintro e u ⟨rfl,F,D⟩;have M:=lH F;have K:=lH (cZ (bY U.out _) D);have c:=lH ((q.out.alloc _).kept D (.inr λe=>absurd ((q.out.lt m e).1) zP));have ak:=lH D.size;clear F D
   go_wp2_with (at_builtin;refine rO rfl _ _ 28 3 rfl (.int qi 0) 1 8 underlying28 info3 rfl zE w.heap.size j (R j) _ rfl (c.out.alloc _) u.heap.size 1 [.int qi y] rfl rfl ?c1 ?c2 ?c3 zE ?c4 ?_)
   case c1=>intro i x Q;match i,Q with|0,Q=>cases Q;go_simp
   case c2=>simp[Value.oneCell']
   case c3=>omega
   case c4=>have:=K.out.size;simp;omega
   intro v' J A G _;have ab:Hid (J.ownsRow w.heap.size 3 1 v' (j+1) (R (j+1))):=lH (by rw[ae.out];exact A);have Z:=lH (rP (bY K.out _) G λi Q=>(c.out.lt i Q).1);have aa:Hid (KnP J m (cnt B)):=lH ((M.out.alloc _).kept G λe=>absurd ((c.out.lt m e.symm).1) zP);clear A G;go_wp2;go_roundw
   case rel=>exact⟨j+1,zP,by go_num,ab,aa,Z⟩
   case measure=>simp[intOf];omega
  have ah:j=n:=zP
  subst ah;go_wp2;go_ret;exact⟨_,rfl,by rw[<-ad.out];exact q.out,L.out,U.out⟩
end Go.Proofs.Y
namespace Go.Proofs.Y
open Go.RowKit Go.Tp Go.Meter
structure kM (w:wD) (V:BkV) (B:Bk):Prop where
 at_:aI w V B
 nz:B.Z.length<=Akv
 nl:B.L.length<=V.lc/\V.lc<=Akv
 nc:B.C.length<=Akv
 np:B.P.length<=Akv
 sn:∀x∈B.L,x.name.size<=Akv
 sp:∀p∈B.P,p.shows.size<=Akv
theorem kM.below{n:Nat}{w w':wD}{V:BkV}{B:Bk}(h:kM w V B)(c:bX n w w')(hn:w.heap.size<=n):kM w' V B:=⟨h.at_.below c hn,h.nz,h.nl,h.nc,h.np,h.sn,h.sp⟩
def gG(B:Bk):Bool:=decide (20<B.Z.length)||decide (20<B.L.length)||decide (20<B.C.length)||decide (20<B.P.length)||(B.L.any λx=>decide (100<x.name.size))||B.P.any λp=>decide (100<p.shows.size)
def Oe{α:Type}{p:α->Bool}{l:List α}{k:Nat}{x:α}(h:l[k]? =some x)(c:p x=true):l.any p=true:=List.any_eq_true.2 ⟨x,Aiq h,c⟩
def any_none{α:Type}{p:α->Bool}{l:List α}(h:∀j x,j<l.length->l[j]? =some x->p x=false):l.any p=false:=by rw[Akm];intro x hx;obtain⟨j,c,rfl⟩:=List.getElem_of_mem hx;rw[h j _ c (lG c)];decide
def kM.in{w:wD}{V:BkV}{B:Bk}(h:kM w V B)(c:gG B=false):dO w V B/\∀x∈B.L,x.name.size<=1000000:=by unfold gG at c;simp only[Bool.or_eq_false_iff,decide_eq_false_iff_not,Akm,decide_eq_true_eq]at c;obtain⟨⟨⟨⟨⟨i,l⟩,q⟩,s⟩,e⟩,f⟩:=c;have:=h.nl;unfold Akv at this;exact⟨⟨h.at_,zP,zP,zP,zP,zP,λp g=>by have:=f p g;omega⟩,λx hx=>by have:=e x hx;omega⟩
def c17(V:BkV)(B:Bk)(w:wD)(E:kM w V B):cF tP 17 #[V.val B] w λe w'=>e=rT (.bool (gG B))/\bX w.heap.size w w':=by
 obtain⟨za,la,ca,pa,zc,lc,cc,pc⟩:=V;have K:=E.nz;have L:=E.nl;have M:=E.nc;have N:=E.np;unfold Akv at K L M N;have Hs:=lH E;clear E;have g:∀o:Obj,bX w.heap.size w (w.alloc o):=λo=>(Aj6 _ _).alloc (nR _) _;by_cases X:20<B.Z.length
 ·have HF:Hid (gG B=true):=lH (by simp[gG,X]);have Q:(B.Z.length:Int)>20:=zP
  go_enter func17,ntmps17;go_wp2;go_ret;exact⟨by rw[HF.out]<;>rfl,g _⟩
 have Q:¬(B.Z.length:Int)>20:=zP
 by_cases Y:20<B.L.length
 ·have HF:Hid (gG B=true):=lH (by simp[gG,Y]);have S:(B.L.length:Int)>20:=zP
  go_enter func17,ntmps17;go_wp2;go_ret;exact⟨by rw[HF.out]<;>rfl,g _⟩
 have S:¬(B.L.length:Int)>20:=zP
 by_cases Z:20<B.C.length
 ·have HF:Hid (gG B=true):=lH (by simp[gG,Z]);have T:(B.C.length:Int)>20:=zP
  go_enter func17,ntmps17;go_wp2;go_ret;exact⟨by rw[HF.out]<;>rfl,g _⟩
 have T:¬(B.C.length:Int)>20:=zP
 by_cases n4:20<B.P.length
 ·have HF:Hid (gG B=true):=lH (by simp[gG,n4]);have U:(B.P.length:Int)>20:=zP
  go_enter func17,ntmps17;go_wp2;go_ret;exact⟨by rw[HF.out]<;>rfl,g _⟩
 have U:¬(B.P.length:Int)>20:=zP
 have HN:=lH (Ajb X (Ajb Y (Ajb Z n4)));clear K L M N;go_enter func17,ntmps17
 go_wp2_with fail
 obtain⟨W,H⟩:∃W,W=w.alloc (.cells #[.int qi B.day,.int qi B.D,.int qi B.U,.slice za B.Z.length zc,.slice la B.L.length lc,.slice ca B.C.length cc,.slice pa B.P.length pc] 27):=⟨_,rfl⟩;have k2:W.cell? ⟨w.heap.size,4,none⟩=some (.slice la B.L.length lc):=by subst H;go_simp
 have k3:W.cell? ⟨w.heap.size,6,none⟩=some (.slice pa B.P.length pc):=by subst H;go_simp
 have t:Hid (bX w.heap.size w W):=lH (by subst H;exact g _);have v:=lH (Hs.out.below t.out (nR _));rw[<-H];clear H g Q S T U
 go_loopw [3] (λi wr=>∃k:Nat,k<=B.L.length/\i=.int qi (k:Int)/\(∀j (x:Ln),j<k->B.L[j]? =some x->decide (100<x.name.size)=false)/\wr=W) (λi _=>B.L.length-(intOf i).toNat)
 case atStart=>exact⟨0,Aih _,rfl,λj x I=>zP,rfl⟩
 case round=>
  obtain⟨k,hk,rfl,q,rfl⟩:=hrel;have l:=lH q;clear q;by_cases hlt:k<B.L.length
  ·have hx:B.L[k]? =some B.L[k]:=lG hlt;obtain⟨b,o,G,g0,_,_,_⟩:=v.out.at_.L k _ hx;simp only at G;subst G;have O:=v.out.sn _ (Aiq hx);unfold Akv at O;have F:=lH hx;clear hx;generalize c:B.L[k].name=D at*;by_cases f:100<D.size
   ·have HF:Hid (gG B=true):=lH (by simp only[gG,Oe (p:=λx:Ln=>decide (100<x.name.size)) F.out (decide_eq_true (by rw[c];exact f))];simp);have s:(D.size:Int)>100:=zP
    clear c;go_wp2;go_ret;exact⟨by rw[HF.out]<;>rfl,t.out⟩
   have s:¬(D.size:Int)>100:=zP
   have A:Hid (∀j (x:Ln),j<k+1->B.L[j]? =some x->decide (100<x.name.size)=false):=lH λj x I hx=>by
    by_cases e:j=k
    ·subst e;rw[F.out]at hx;cases hx;exact decide_eq_false (by rw[c];exact f)
    exact l.out j x zP hx
   clear c;go_wp2;exact⟨⟨k+1,zP,rfl,A.out,trivial⟩,by simp[intOf];omega⟩
  have A2:Hid ((B.L.any λx=>decide (100<x.name.size))=false):=lH (any_none λj x I hx=>l.out j x zP hx);clear l
  go_wp2_with fail
  go_loopw [4] (λi w2=>∃k:Nat,k<=B.P.length/\i=.int qi (k:Int)/\(∀j (x:Pt),j<k->B.P[j]? =some x->decide (100<x.shows.size)=false)/\w2=wr) (λi _=>B.P.length-(intOf i).toNat)
  case atStart=>exact⟨0,Aih _,rfl,λj x I=>zP,rfl⟩
  case round=>
   obtain⟨y,aa,rfl,q,rfl⟩:=hrel;have l:=lH q;clear q;by_cases J:y<B.P.length
   ·have hx:B.P[y]? =some B.P[y]:=lG J;obtain⟨b,o,G,_,_,g0⟩:=v.out.at_.P y _ hx;simp only at G;subst G;have O:=v.out.sp _ (Aiq hx);unfold Akv at O;have F:=lH hx;clear hx;generalize c:B.P[y].shows=D at*;by_cases f:100<D.size
    ·have HF:Hid (gG B=true):=lH (by simp only[gG,Oe (p:=λx:Pt=>decide (100<x.shows.size)) F.out (decide_eq_true (by rw[c];exact f))];simp);have s:(D.size:Int)>100:=zP
     clear c;go_wp2;go_ret;exact⟨by rw[HF.out]<;>rfl,t.out⟩
    have s:¬(D.size:Int)>100:=zP
    have A:Hid (∀j (x:Pt),j<y+1->B.P[j]? =some x->decide (100<x.shows.size)=false):=lH λj x I hx=>by
     by_cases e:j=y
     ·subst e;rw[F.out]at hx;cases hx;exact decide_eq_false (by rw[c];exact f)
     exact l.out j x zP hx
    clear c;go_wp2;exact⟨⟨y+1,zP,rfl,A.out,trivial⟩,by simp[intOf];omega⟩
   have A3:Hid ((B.P.any λx=>decide (100<x.shows.size))=false):=lH (any_none λj x I hx=>l.out j x zP hx);have HF:Hid (gG B=false):=lH (by obtain⟨K,L,M,N⟩:=HN.out;unfold gG;rw[A2.out,A3.out,decide_eq_false K,decide_eq_false L,decide_eq_false M,decide_eq_false N];rfl)
   go_wp2;go_ret;exact⟨by rw[HF.out]<;>rfl,t.out⟩
def lX(B:Bk):Bool:= !gG B&&decide (aV B=0)
def c32(V:BkV)(B:Bk)(w:wD)(F:kM w V B):cF tP 32 #[V.val B] w λe T=>e=rT (.bool (lX B))/\bX w.heap.size w T:=by
 obtain⟨za,la,y,pa,zc,lc,cc,pc⟩:=V;have v:bX w.heap.size w (w.alloc (.cells #[.int qi B.day,.int qi B.D,.int qi B.U,.slice za B.Z.length zc,.slice la B.L.length lc,.slice y B.C.length cc,.slice pa B.P.length pc] 27)):=(Aj6 _ _).alloc (nR _) _;have c:=lH v;have l:=lH (c17 ⟨za,la,y,pa,zc,lc,cc,pc⟩ B _ (F.below v (nR _)));have I:=lH F;clear F v
 cases A:gG B with
 |true=>
  go_enter func32,ntmps32
  go_wp2_with (go_at_call 17;refine l.out.mono ?_;rw[A];rintro e u ⟨rfl,i⟩;have Hb:=lH i;clear i)
  go_ret;exact⟨by simp[lX,A],c.out.trans (Hb.out.mono c.out.size)⟩
 |false=>
  have g:=lH (I.out.in A);have Hc:Hid (Cells (w.alloc (.cells #[.int qi B.day,.int qi B.D,.int qi B.U,.slice za B.Z.length zc,.slice la B.L.length lc,.slice y B.C.length cc,.slice pa B.P.length pc] 27)) (aB w.heap.size ⟨za,la,y,pa,zc,lc,cc,pc⟩ B)):=lH (by simp only[aB,Cells,and_true];go_simp);have H:Hid (∃t,t=aV B):=lH ⟨_,rfl⟩;obtain⟨al,s⟩:=H.out;have G:Hid (lX B=decide (al=0)):=lH (by rw[s];simp[lX,A]);have D:=lH s;clear s;by_cases E:al=0
  ·have p:Hid (lX B=true):=lH (by rw[G.out,E];rfl);have Ha:=lH E;clear E;go_enter func32,ntmps32
   go_wp2_with (first|(go_at_call 17;refine l.out.mono ?_;rw[A];rintro e u ⟨rfl,i⟩;have Hb:=lH i;clear i;have x:=gV Hb.out (nR _) Hc.out;obtain⟨K,L,M,N,O,Q,S,-⟩:=x)|(go_at_call 45;refine(c45 ⟨za,la,y,pa,zc,lc,cc,pc⟩ B _ ((g.out.1.below c.out (nR _)).below Hb.out (nR _)) g.out.2).mono ?_;rw[<-D.out,Ha.out];rintro e u2 ⟨rfl,f⟩;have q:=lH f;clear f))
   go_ret;exact⟨by rw[p.out];rfl,(c.out.trans (Hb.out.mono c.out.size)).trans (q.out.mono (Agd c.out.size Hb.out.size))⟩
  have p:Hid (lX B=false):=lH (by rw[G.out];exact decide_eq_false E);have J:(al==0)=false:=by simpa using E
  go_enter func32,ntmps32
  go_wp2_with (first|(go_at_call 17;refine l.out.mono ?_;rw[A];rintro e u ⟨rfl,i⟩;have Hb:=lH i;clear i;have x:=gV Hb.out (nR _) Hc.out;obtain⟨K,L,M,N,O,Q,S,-⟩:=x)|(go_at_call 45;refine(c45 ⟨za,la,y,pa,zc,lc,cc,pc⟩ B _ ((g.out.1.below c.out (nR _)).below Hb.out (nR _)) g.out.2).mono ?_;rw[<-D.out];rintro e u2 ⟨rfl,f⟩;have q:=lH f;clear f))
  go_ret;exact⟨by rw[p.out];rfl,(c.out.trans (Hb.out.mono c.out.size)).trans (q.out.mono (Agd c.out.size Hb.out.size))⟩
end Go.Proofs.Y
namespace Go.Proofs.Y
open Go.RowKit Go.Tp Go.Meter Go.Conc
def cu(c:Nat)(V:BkV)(B:Bk)(m C:Nat):List (aD×vL):=[(⟨c,0,none⟩,.int qi B.day),(⟨c,1,none⟩,.int qi B.D),(⟨c,2,none⟩,.int qi B.U),(⟨c,3,none⟩,.slice V.za B.Z.length V.zc),(⟨c,4,none⟩,.slice V.la B.L.length V.lc),(⟨c,5,none⟩,.slice V.ca B.C.length V.cc),(⟨c,6,none⟩,.slice V.pa B.P.length V.pc),(⟨c,7,none⟩,.map (some m)),(⟨c,8,none⟩,.slice (some ⟨C,0,none⟩) B.L.length B.L.length)]
def c119(p:Past)(w:wD):cF tP 119 #[bZ p] w λe c=>e=rT (.int qi p.start)/\bX w.heap.size w c:=by go_enter func119,ntmps119;go_wp2;go_ret;exact⟨rfl,(Aj6 _ _).alloc (nR _) _⟩
def Z4(V:BkV)(B:Bk)(M:B.Fine)(m C k E D A:Nat)(t:Int)(p:Past)(w:wD)(g:aI w V B)(c:KnP w m (cnt B))(hc:Cells w (cu E V B m C++[(⟨D,0,none⟩,.int qi (k:Int)),(⟨A,0,none⟩,.int qi t)]))(H:p.Ok B)(G:k<B.L.length)(O:t<=200):
 cF tP 110 #[bZ p,.pointer (some ⟨E,0,none⟩),.pointer (some ⟨D,0,none⟩),.pointer (some ⟨A,0,none⟩)] w λe I=>e=rT (.int qi (B.shows k p t))/\KnP I m (cnt B)/\w.grownBy I (some m):=by
 have q:Hid (∀u,w.grownBy u (some m)->KnP u m (cnt B)->cF tP 93 #[ctr V B m,.int qi (k:Int),bZ p,.int qi t] u λe x=>e=rT (.int qi (B.shows k p t))/\KnP x m (cnt B)/\w.grownBy x (some m)):=lH λu F N=>(c93 V B M m k t p u (g.grown F c.isMap) N H G O).mono λe x ⟨K,h2,L⟩=>⟨K,h2,cZ F L⟩;have J:=lH c;clear g c H G;obtain⟨za,la,W,pa,zc,lc,cc,pc⟩:=V;simp only[cu,Akn,Akp,Cells,and_true]at hc;obtain⟨T,X,Y,Z,q4,q5,q6,q7,q8,U,v⟩:=hc;have Q:=wBk w _ T;have S:=wBk w _ U;have s:=wBk w _ v;simp only at Q S s;generalize B.shows k p t=y at*;go_enter func110,ntmps110
 go_wp2_with (go_at_call 93;refine(q.out _ (bY (eF _ _) _) (J.out.alloc _)).mono ?_;rintro e u ⟨rfl,l,i⟩;have f:=lH (Ajb l i);clear l i)
 go_ret;exact⟨rfl,f.out.1,f.out.2⟩
def c89(V:BkV)(B:Bk)(G:B.Fine)(m C t:Nat)(p:Past)(w:wD)(g:aI w V B)(c:KnP w m (cnt B))(hc:Cells w (cu t V B m C))(x:p.Ok B):
 cF tP 89 #[bZ p,.pointer (some ⟨t,0,none⟩)] w λe A=>e=rT (.int qi (B.count p 200))/\KnP A m (cnt B)/\w.grownBy A (some m):=by
 have q:Hid (∀u,w.grownBy u (some m)->KnP u m (cnt B)->cF tP 90 #[ctr V B m,bZ p,.int qi 200] u λe s=>e=rT (.int qi (B.count p 200))/\KnP s m (cnt B)/\w.grownBy s (some m)):=lH λu v H=>(c90 V B G m 200 p u (g.grown v c.isMap) H x zP).mono λe s ⟨E,h2,F⟩=>⟨E,h2,cZ v F⟩;have D:=lH c;clear g c x;obtain⟨za,la,K,pa,zc,lc,cc,pc⟩:=V;obtain⟨J,L,M,N,O,Q,S,T,U,-⟩:=hc;have I:=wBk w _ J;simp only at I;generalize B.count p 200=y at*;go_enter func89,ntmps89
 go_wp2_with (go_at_call 90;refine(q.out _ (bY (eF _ _) _) (D.out.alloc _)).mono ?_;rintro e u ⟨rfl,l,i⟩;have f:=lH (Ajb l i);clear l i)
 go_ret;exact⟨rfl,f.out.1,f.out.2⟩
def Z5(V:BkV)(B:Bk)(M:B.Fine)(m C F L K:Nat)(f t:Int)(p:Past)(w:wD)(H:aI w V B)(q:KnP w m (cnt B))(hc:Cells w (cu F V B m C++[(⟨L,0,none⟩,.int qi t),(⟨K,0,none⟩,.int qi f)]))(J:p.Ok B)(Z:t<=200)(Y:f<=200):
 cF tP 136 #[bZ p,.pointer (some ⟨F,0,none⟩),.pointer (some ⟨L,0,none⟩),.pointer (some ⟨K,0,none⟩)] w λe w'=>e=rT (.int qi (B.count p t-B.count p f))/\KnP w' m (cnt B)/\w.grownBy w' (some m):=by
 have b1:=BD M J Z;have b2:=BD M J Y;have v:Hid (∀s,s<=200->∀u,w.grownBy u (some m)->KnP u m (cnt B)->cF tP 90 #[ctr V B m,bZ p,.int qi s] u λe Q=>e=rT (.int qi (B.count p s))/\u.grownBy Q (some m)/\KnP Q m (cnt B)):=lH λs hs u hg hk=>(c90 V B M m s p u (H.grown hg q.isMap) hk J hs).mono λe Q ⟨h1,h2,h3⟩=>⟨h1,h3,h2⟩;have U:=lH q;have aa:=q.lt;have Hc:=lH hc;have S:=lH (v.out t Z);have T:=lH (v.out f Y);clear H q J v;obtain⟨za,la,G,pa,zc,lc,cc,pc⟩:=V;simp only[cu,Akn,Akp,Cells,and_true]at hc;obtain⟨q0,q1,q2,q3,q4,q5,q6,q7,q8,q9,I⟩:=hc;generalize B.count p t=y at*;generalize B.count p f=x at*;have ab:IntKind.wrap qi (y-x)=y-x:=IntWalk.i64_in _ zP;go_enter func136,ntmps136;go_wp2;refine uq (z:=100) (some m) (λu=>KnP u m (cnt B)) ((U.out.alloc _).kept (row:=none) ⟨rfl,rfl,rfl,nR _,λ_ _ _=>rfl⟩ yW) (λu o h=>h.alloc o) 12 0 [6,7,8,9,10,11,12,13,14,15,16,5] [] (λ_=>default) (λ_=>[.pointer (some ⟨F,0,none⟩),.agg #[.int qi B.day,.int qi B.D,.int qi B.U,.slice za B.Z.length zc,.slice la B.L.length lc,.slice G B.C.length cc,.slice pa B.P.length pc,.map (some m)],.agg #[.int qi p.start,.bool (p.c 0).made,.int qi (p.c 0).ans,.int qi (p.c 0).clr,.bool (p.c 1).made,.int qi (p.c 1).ans,.int qi (p.c 1).clr,.bool (p.c 2).made,.int qi (p.c 2).ans,.int qi (p.c 2).clr],.int qi t,.int qi y,.pointer (some ⟨F,0,none⟩),.agg #[.int qi B.day,.int qi B.D,.int qi B.U,.slice za B.Z.length zc,.slice la B.L.length lc,.slice G B.C.length cc,.slice pa B.P.length pc,.map (some m)],.agg #[.int qi p.start,.bool (p.c 0).made,.int qi (p.c 0).ans,.int qi (p.c 0).clr,.bool (p.c 1).made,.int qi (p.c 1).ans,.int qi (p.c 1).clr,.bool (p.c 2).made,.int qi (p.c 2).ans,.int qi (p.c 2).clr],.int qi f,.int qi x,.int qi (y-x),.int qi (y-x)]) xD rfl xD (λ_=>rfl) (by intro j e;cases e;simp;omega) λbs A X=>?_;simp only[jk,Act.put,List.setIfInBounds_toArray,List.set_cons_zero,List.set_cons_succ]at X;subst X;obtain⟨W,i⟩:∃W,W=w.alloc (.cells #[.int qi p.start,.bool (p.c 0).made,.int qi (p.c 0).ans,.int qi (p.c 0).clr,.bool (p.c 1).made,.int qi (p.c 1).ans,.int qi (p.c 1).clr,.bool (p.c 2).made,.int qi (p.c 2).ans,.int qi (p.c 2).clr] 132):=⟨_,rfl⟩;have N:Cells W.drew (cu F ⟨za,la,G,pa,zc,lc,cc,pc⟩ B m C++[(⟨L,0,none⟩,.int qi t),(⟨K,0,none⟩,.int qi f),(⟨w.heap.size,0,none⟩,.int qi p.start),(⟨w.heap.size,1,none⟩,.bool (p.c 0).made),(⟨w.heap.size,2,none⟩,.int qi (p.c 0).ans),(⟨w.heap.size,3,none⟩,.int qi (p.c 0).clr),(⟨w.heap.size,4,none⟩,.bool (p.c 1).made),(⟨w.heap.size,5,none⟩,.int qi (p.c 1).ans),(⟨w.heap.size,6,none⟩,.int qi (p.c 1).clr),(⟨w.heap.size,7,none⟩,.bool (p.c 2).made),(⟨w.heap.size,8,none⟩,.int qi (p.c 2).ans),(⟨w.heap.size,9,none⟩,.int qi (p.c 2).clr)]):=by rw[i];have l0:=wBk w _ q0;have l9:=wBk w _ q9;have O:=wBk w _ I;simp only at l0 l9 O;simp only[cu,Akn,Akp,Cells,and_true];go_simp
 have l:w.grownBy W.drew (some m):=by rw[i];exact cZ (bY (eF _ _) _) ⟨rfl,rfl,rfl,nR _,λ_ _ _=>rfl⟩
 have D:∀j,some m=some j->∃es c,W.drew.heap[j]? =some (.map es c):=by rw[i];exact λj e=>by cases e;exact(U.out.alloc _).isMap
 rw[<-i];clear i;clear q0 q1 q2 q3 q4 q5 q6 q7 q8 q9 I;refine⟨?_,λu g hB _=>?_⟩
 ·iterate 4 refine dL (λu g=>by have h:=N.grown g.1 D;simp only[cu,Akn,Akp,Cells,and_true]at h;go_simp) ?_
  refine ql 90 #[.agg #[.int qi B.day,.int qi B.D,.int qi B.U,.slice za B.Z.length zc,.slice la B.L.length lc,.slice G B.C.length cc,.slice pa B.P.length pc,.map (some m)],.agg #[.int qi p.start,.bool (p.c 0).made,.int qi (p.c 0).ans,.int qi (p.c 0).clr,.bool (p.c 1).made,.int qi (p.c 1).ans,.int qi (p.c 1).clr,.bool (p.c 2).made,.int qi (p.c 2).ans,.int qi (p.c 2).clr],.int qi t] (λu g=>by go_simp) (λu g=>S.out u (cZ l g.1) g.2) ?_
  iterate 4 refine dL (λu g=>by have h:=N.grown g.1 D;simp only[cu,Akn,Akp,Cells,and_true]at h;go_simp) ?_
  refine ql 90 #[.agg #[.int qi B.day,.int qi B.D,.int qi B.U,.slice za B.Z.length zc,.slice la B.L.length lc,.slice G B.C.length cc,.slice pa B.P.length pc,.map (some m)],.agg #[.int qi p.start,.bool (p.c 0).made,.int qi (p.c 0).ans,.int qi (p.c 0).clr,.bool (p.c 1).made,.int qi (p.c 1).ans,.int qi (p.c 1).clr,.bool (p.c 2).made,.int qi (p.c 2).ans,.int qi (p.c 2).clr],.int qi f] (λu g=>by go_simp) (λu g=>T.out u (cZ l g.1) g.2) ?_;refine dL (λu g=>by go_simp) ?_;refine dL (λu g=>by go_simp) rM
 refine qj (hr:=by kernel_rfl) ?_;have E:=lH (Ajb g.2 (cZ l g.1));clear g N l D hB S T;go_wp2;go_ret;exact⟨rfl,E.out.1,E.out.2⟩
def Og{w u:wD}{e:Option Nat}(h:w.grownBy u e){p:aD}(g:w.heap.size<=p.block)(v:vL):w.grownBy (u.setCell p v) e:=
 ⟨h.os,h.tape,h.output,by rw[Akl];exact h.size,λk f c=>by rw[Aix _ _ _ _ zP];exact h.block k f c⟩
theorem KnP.set{u:wD}{m:Nat}{C:Int->Int->Sp->Int}(h:KnP u m C){p:aD}(f:p.block≠m)(v:vL):KnP (u.setCell p v) m C:=
 h.kept (row:=some p.block) ⟨rfl,rfl,rfl,by rw[Akl];exact nR _,λk _ c=>Aix _ _ _ _ λe=>c (by rw[e])⟩ λe=>f (by cases e;rfl)
def Z7{V:BkV}{B:Bk}(g:B.Fine){far:Int}(t:∃i z,B.zoneIx far=some i/\B.Z[i]? =some z){a e:Int}(w:wD)(l:aI w V B)(s:0<=a/\a<=1000)(he:e<=1000):cF tP 113 #[V.val B,.int qi far,.int qi a,.int qi e] w λq v=>q=rT (.int qi (B.price far a e))/\bX w.heap.size w v:=by obtain⟨i,z,p,f⟩:=t;have c:=g.zone i _ f;have x:=g.day;have y:=g.D;have A:=g.U;have D:=g.nz;exact Bv V B _ i far a e w l zP p f (vX p f) zP zP ⟨c.2.1.1,c.2.1.2,c.2.2.1.1,c.2.2.1.2⟩ s he
def kN(B:Bk)(i:Nat)(p:Past):Int:=if (p.c i).made=false then 0 else B.price (B.callAt i).far (p.c i).ans (p.c i).clr
def Z8(V:BkV)(B:Bk)(E:B.Fine)(m C i K L J:Nat)(x:Cl)(p:Past)(w:wD)(q:aI w V B)(s:KnP w m (cnt B))(hc:Cells w (cu L V B m C++[(⟨K,0,none⟩,.int qi (i:Int)),(⟨J,1,none⟩,.int qi x.far)]))(M:p.Ok B)(hx:B.C[i]? =some x):
 cF tP 121 #[bZ p,.pointer (some ⟨K,0,none⟩),.pointer (some ⟨L,0,none⟩),.pointer (some ⟨J,0,none⟩)] w λe N=>e=rT (.int qi (kN B i p))/\KnP N m (cnt B)/\w.grownBy N (some m):=by
 have A:B.callAt i=x:=by unfold Bk.callAt;rw[hx];rfl
 have F:i<3:=by have:=(lS.1 hx).1;have:=E.nc;omega
 have l:kN B i p=if (p.c i).made=false then 0 else B.price x.far (p.c i).ans (p.c i).clr:=by unfold kN;rw[A]
 have v:=(M.2 i F).1;have c:Hid (∀u,(p.c i).made=true->bX w.heap.size w u->cF tP 113 #[V.val B,.int qi x.far,.int qi (p.c i).ans,.int qi (p.c i).clr] u λQ X=>Q=rT (.int qi (B.price x.far (p.c i).ans (p.c i).clr))/\bX u.heap.size u X):=lH λu t g=>by obtain⟨_,h2,Z⟩:=v t;exact Z7 E (E.call i x hx).zone u (q.below g (nR _)) zP zP
 have I:=lH s;have f:=lH l;clear q s M v A l hx;obtain⟨za,la,Y,pa,zc,lc,cc,pc⟩:=V;simp only[cu,Akn,Akp,Cells,and_true]at hc;obtain⟨U,q1,q2,q3,q4,q5,q6,q7,q8,W,H⟩:=hc;have S:=wBk w _ U;have T:=wBk w _ W;have G:=wBk w _ H;simp only at S T G;obtain rfl|rfl|rfl:i=0\/i=1\/i=2:=zP
 all_goals
  cases t:(p.c _).made with
  |false=>
   have D:=lH (f.out.trans (if_pos t));go_enter func121,ntmps121
   go_wp2_with fail
   go_ret;exact⟨by rw[D.out];rfl,(I.out.alloc _).alloc _,bY (bY (eF _ _) _) _⟩
  |true=>
   have D:=lH (f.out.trans (if_neg (by rw[t];decide)));have O:=lH λu g=>c.out u t g;clear c f;generalize B.price x.far _ _=y at*;go_enter func121,ntmps121
   go_wp2_with (go_at_call 113;refine(O.out _ (((Aj6 _ _).alloc (nR _) _).alloc yW _)).mono ?_;rintro e u ⟨rfl,g⟩;have Hb:=lH g;clear g)
   go_ret;exact⟨by rw[D.out];rfl,((I.out.alloc _).alloc _).kept (grown_of Hb.out none) yW,cZ (bY (bY (eF _ _) _) _) (grown_of Hb.out (some m))⟩
def c83(V:BkV)(B:Bk)(F:B.Fine)(n0 m C k:Nat)(f t:Int)(w:wD)(q:Opened w V B n0 m C)(M:k<B.L.length)(N:B.hs k≠[])(ht:t<=200)(Z:f<=200):
 cF tP 83 #[nM V B m C,.int qi (k:Int),.int qi f,.int qi t] w λe Q=>e=rT (.agg #[.int qi (jU ((B.hs k).map λp=>B.count p t-B.count p f)).1,.int qi (jU ((B.hs k).map λp=>B.count p t-B.count p f)).2])/\KnP Q m (cnt B)/\w.grownBy Q (some m):=by
 have A:(B.hs k).length<=3000:=qC F M;have aa:=q.kn.lt;have G:Hid (∀(W:wD),w.grownBy W (some m)->KnP W m (cnt B)->Cells W (cu w.heap.size V B m C++[(⟨w.heap.size+1+1,0,none⟩,.int qi t),(⟨w.heap.size+1,0,none⟩,.int qi f)])->cF tP 92 #[nM V B m C,.int qi (k:Int),.func (.func 136) #[] #[.pointer (some ⟨w.heap.size,0,none⟩),.pointer (some ⟨w.heap.size+1+1,0,none⟩),.pointer (some ⟨w.heap.size+1,0,none⟩)]] W λe y=>∃qa pc,e=rT (.slice qa ((B.hs k).map λp=>B.count p t-B.count p f).length pc)/\Hid (aF y qa ((B.hs k).map λp=>B.count p t-B.count p f))/\Hid (KnP y m (cnt B))/\Hid (w.grownBy y (some m))/\Hid (W.grownBy y (some m))):=lH λW K D hc=>by
  refine(c92 V B F n0 m C k M 136 _ (λp=>B.count p t-B.count p f) W (q.grown K D) (cf func136 rfl rfl) λu p l h2 hp=>?_).mono ?_
  ·exact Z5 V B F m C _ _ _ f t p u (q.at_.grown (cZ K l) q.kn.isMap) h2 (hc.grown l λj e=>by cases e;exact D.isMap) (BQ F M p hp) ht Z
  rintro e y ⟨r,rfl,l,h2,O⟩;obtain⟨qa,pc,rfl,hn,_,_⟩:=yw l yW;exact⟨qa,pc,by rw[List.length_map],lH hn,lH h2,lH (cZ K O),lH O⟩
 have s:Hid (∀(u:wD) (qa:Option aD) (pc:Nat),aF u qa ((B.hs k).map λp=>B.count p t-B.count p f)->cF tP 120 #[.slice qa ((B.hs k).map λp=>B.count p t-B.count p f).length pc] u λe u'=>e=rT (.agg #[.int qi (jU ((B.hs k).map λp=>B.count p t-B.count p f)).1,.int qi (jU ((B.hs k).map λp=>B.count p t-B.count p f)).2])/\bX u.heap.size u u'):=lH λu qa pc hn=>Ny _ qa pc u hn (by simpa using N) (by simpa using Agd A zP);have T:=lH q.kn;have S:Hid (∀u u2:wD,((((w.alloc (.cells #[.int qi B.day,.int qi B.D,.int qi B.U,.slice V.za B.Z.length V.zc,.slice V.la B.L.length V.lc,.slice V.ca B.C.length V.cc,.slice V.pa B.P.length V.pc,.map (some m),.slice (some ⟨C,0,none⟩) B.L.length B.L.length] 118)).alloc (.cells #[.int qi f] 3)).alloc (.cells #[.int qi t] 3)).alloc (.cells #[.int qi 0,.int qi 0] 32)).grownBy u (some m)->bX u.heap.size u u2->u2.heap[w.heap.size+1+1+1]? =some (.cells #[.int qi 0,.int qi 0] 32 (0,0))):=lH λu u2 l h2=>by have hs:=l.size;simp only[World.size_alloc]at hs;rw[h2.block _ zP,l.block _ yW (by intro e;cases e;omega)];exact last_at yW
 clear q N A;obtain⟨za,la,ca,pa,zc,lc,cc,pc⟩:=V;generalize ((B.hs k).map λp=>B.count p t-B.count p f)=L at*;generalize jU L=E at*;obtain⟨X,Y⟩:=E;go_enter func83,ntmps83
 go_wp2_with (go_at_call 92;refine(G.out _ (bY (bY (bY (bY (eF _ _) _) _) _) _) ((((T.out.alloc _).alloc _).alloc _).alloc _) (by simp only[cu,Akn,Akp,Cells,and_true];go_simp)).mono ?_;rintro e u ⟨qa,ab,rfl,U,J,H,I⟩)
 refine(s.out _ _ _ U.out).mono ?_;rintro e u2 ⟨rfl,g⟩;have i:=g;have x:=lH (Ajb (J.out.kept (grown_of g none) yW) (cZ H.out (grown_of g (some m))));clear g;have c:u2.heap[w.heap.size+1+1+1]? =some (.cells #[.int qi 0,.int qi 0] 32 (0,0)):=S.out _ _ I.out i;have y0:u2.cell? ⟨w.heap.size+1+1+1,0,none⟩=some (.int qi 0):=by simp[Aeq,c]
 have y1:u2.cell? ⟨w.heap.size+1+1+1,1,none⟩=some (.int qi 0):=by simp[Aeq,c]
 have f0:u2.frozen? ⟨w.heap.size+1+1+1,0,none⟩=false:=by simp[Aem,c]
 have f1:u2.frozen? ⟨w.heap.size+1+1+1,1,none⟩=false:=by simp[Aem,c]
 clear c i;go_wp2;refine bodyPost_ret (v:=.agg #[.int qi X,.int qi Y]) (by simp[results,results83,go_sem,y0,y1]) rfl ⟨rfl,?_⟩;exact⟨KnP.set (KnP.set x.out.1 xL _) xL _,Og (Og x.out.2 xL _) xL _⟩
end Go.Proofs.Y
namespace Go.Tp
open Go.Conc Go.ConcN Go.RowKit
section
variable {P:Program} [Team P] {b:Frame} {R:vL->wD->Prop} {a:Act} {w:wD} {k:List Item}
def wC{c:Code}{fn:Func}{S:Act->wD->Prop}{Q:vL->wD->Prop}(q:P.funcs[b.fn]? =some fn)(t:P.inits.idxOf? b.fn=none)(H:b.kind≠.early)(G:a.defers=[])(hc:fE P (tF P) (tG P) c=true)(x:codeOk true c=true)(F:∀a w τ d,S a (w.tp τ d noJ)->S a w)(D:∀v w τ d,Q v (w.tp τ d noJ)->Q v w)(h:∀τ,c.wp P (λe l i=>(e=.normal/\l.defers=[]/\S l i)\/(e=.ret/\bodyPost P fn (λe i=>∃v,e=rT v/\Q v i) e l i)) a (w.tp τ 0 noJ))(hn:∀l i,l.defers=[]->S l i->GLb P b k R l i)(E:∀v i,Q v i->R v i):GLb P b (.code c::k) R a w:=by
 have s:∀(a:Act) (w:wD) (τ:Nat->Question->Nat) (d:Nat),(∃v,(∃f g,(results fn a.tmps).run P ((w.tp τ d noJ).tp f g noJ)=.ok v ((w.tp τ d noJ).tp f g noJ))/\Q v (w.tp τ d noJ))->∃v,(∃f g,(results fn a.tmps).run P (w.tp f g noJ)=.ok v (w.tp f g noJ))/\Q v w:=λa w τ d ⟨v,⟨f,g,p⟩,h2⟩=>⟨v,⟨f,g,by rwa [fB]at p⟩,D _ _ _ _ h2⟩;refine FY (S:=S) (S2:=λa w=>∃v,(∃f g,(results fn a.tmps).run P (w.tp f g noJ)=.ok v (w.tp f g noJ))/\Q v w) ⟨fn,q,t⟩ H G hc x F s (λτ=>wp_mono (h τ) λe a1 w1 I=>?_) hn λa1 w1 y J=>?_
 ·rcases I with⟨p,h2,A⟩|⟨rfl,p,v,h2,K,A,h4⟩
  ·grind
  cases A
  exact⟨p,.inr ⟨rfl,v,⟨w1.tape,w1.drawn,by rw[jP];exact h2⟩,h4⟩⟩
 obtain⟨v,⟨f,g,p⟩,h2⟩:=J;refine⟨fn,v,q,λτ d=>?_,E _ _ h2⟩;have:=NT (zJ fn a1.tmps) (fC y f g) p τ d
 grind [fB]
end
end Go.Tp
namespace Go.Proofs.Y
open Go.RowKit Go.Tp Go.Meter Go.Conc Go.ConcN Go.Conc.Lib Go.ConcR.Gen Go.ConcN.Gen
section
open Go.ConcR (KK WgAt stA smA rd wr mk Payload DC0)
abbrev Res:=Nat->Option (Nat×Nat×Array vL)
def BR(r:Option (Nat×Nat×Array vL)):Obj:=match r with
 |some (_,_,c)=>.cells c 132
 |none=>.cells #[] 132
def BU(b n:Nat)(r:Option (Nat×Nat×Array vL)):vL:=match r with
 |some (_,cap,_)=>.slice (some ⟨b,0,none⟩) n cap
 |none=>.slice none 0 0
def lY(w:wD)(C n:Nat)(len:Nat->Nat)(r:Res):wD:=
 {w with heap:=(w.heap.setIfInBounds C (.cells ((Aep n).map λk=>BU (w.heap.size+k) (len k) (r k)) 138))++(Aep n).map λk=>BR (r k)}
section
variable {w:wD} {C n:Nat} {len:Nat->Nat} {r:Res}
theorem BX:(lY w C n len r).heap.size=w.heap.size+n:=by simp[lY]
def Gh{b:Nat}(e:b<w.heap.size)(c:b≠C):(lY w C n len r).heap[b]? =w.heap[b]? :=by
 unfold lY
 grind
theorem Gi(c:C<w.heap.size):(lY w C n len r).heap[C]? =some (.cells ((Aep n).map λk=>BU (w.heap.size+k) (len k) (r k)) 138 (0,0)):=by
 unfold lY
 grind
def Gj{k:Nat}(c:k<n):(lY w C n len r).heap[w.heap.size+k]? =some (BR (r k)):=by
 unfold lY
 grind
def Z9{b:Nat}{o:Obj}(h:(lY w C n len r).heap[b]? =some o):b<w.heap.size\/∃k,k<n/\b=w.heap.size+k/\o=BR (r k):=by
 by_cases c:b<w.heap.size
 ·exact .inl c
 right;have hlt:=(aS.1 h).1;rw[BX]at hlt;refine⟨b-w.heap.size,zP,zP,?_⟩;have:=Gj (w:=w) (C:=C) (n:=n) (len:=len) (r:=r) (k:=b-w.heap.size) zP
 grind
def aac(f:Started w):Started (lY w C n len r):=by
 intro b o h
 rcases Z9 h with e|⟨k,_,_,rfl⟩
 ·by_cases c:b=C
  ·grind [Gi,Obj.started]
  rw[Gh e c]at h;exact f b o h
 unfold BR
 grind [Obj.started]
def qE(Rr:Rl)(w:wD)(n:Nat)(r:Res):Rl:=
 ⟨λb f=>Rr.rel b f\/∃k e c,k<n/\b=w.heap.size+k/\r k=some (f,e,c),Rr.ch,λf=>Rr.own f\/∃k e c,k<n/\r k=some (f,e,c)⟩
def wF{Rr:Rl}:Rr.le (qE Rr w n r):=⟨λ_ _ h=>.inl h,λ_ _ h=>h,λ_ h=>.inl h⟩
def aad{P:Program}{F:fI->Bool}{K:Kd}{Rr:Rl}{u u1:wD}{L:Nat}{c0 c1:Array vL}(t:WR P F K Rr (w.tp u.tape u.drawn noJ) u)(O:Rr.rel C L)(oC:Rr.own L)(hc0:w.heap[C]? =some (.cells c0 138 (0,0)))(hz:u.heap.size<=u1.heap.size)(N:∀p,p<u.heap.size->p≠L->u1.heap[p]? =u.heap[p]?)(T:u1.heap[L]? =some (.cells c1 138 (0,0)))(hn:c1.size=n)(E:∀k o f c,k<n->r k=some (o,f,c)->u.heap.size<=o/\u1.heap[o]? =some (.cells c 132 (0,0))/\(∀x∈c,Imm x)/\c1[k]? =some (.slice (some ⟨o,0,none⟩) (len k) f))(M:∀k,k<n->r k=none->c1[k]? =some (.slice none 0 0))(ab:∀j k o f c q Q,j<n->k<n->r j=some (o,f,c)->r k=some (o,q,Q)->j=k):
 WR P F K (qE Rr w n r) ((lY w C n len r).tp u1.tape u1.drawn noJ) u1:=by
 have g:=t.dom;simp only[iw]at g;have U:=t.bigW;have W:=t.bigU;rw[iw]at U;have ad:=(g _ _ O).1;have ac:=(g _ _ O).2;refine⟨λb p h=>?_,λb b1 b2 D h2=>?_,λb1 b2 p D h2=>?_,λb p o h G=>?_,λb p h hg=>?_,rfl,rfl,?_,Agd W hz⟩
 ·rw[iw,BX]
  rcases h with h|⟨k,f,c,s,rfl,I⟩<;>grind
 ·rcases D with D|⟨k,f,c,s,rfl,I⟩<;>rcases h2 with h2|⟨k2,q,Q,Y,e,aa⟩
  ·exact t.fn _ _ _ D h2
  ·grind
  ·grind
  grind
 ·rcases D with D|⟨k,f,c,s,rfl,I⟩<;>rcases h2 with h2|⟨k2,q,Q,Y,e,aa⟩
  ·exact t.inj _ _ _ D h2
  ·grind
  ·grind
  grind
 ·rw[AY]at G
  rcases h with h|⟨k,f,c,s,rfl,I⟩
  ·have hbw:=(g _ _ h).1;have S:=(g _ _ h).2;by_cases H:b=C
   ·subst H;obtain rfl:=t.fn _ _ _ O h;rw[Gi hbw]at G
    cases G
    refine⟨_,T,.cells ⟨by simp[hn],λi v v' e A=>?_⟩ (λ_=>rfl) (λx=>absurd (.inl oC) x)⟩;have X:i<n:=by have:=(aS.1 A).1;omega
    have ev:v=BU (w.heap.size+i) (len i) (r i):=by grind
    subst ev
    cases J:r i with
    |none=>
     rw[M i X J]at A
     cases A
     exact .nilSlice 0 0
    |some x=>
     obtain⟨o,f,c⟩:=x;rw[(E i _ _ _ X J).2.2.2]at A
     cases A
     exact VR.slice _ _ (.mk 0 none (.inr ⟨i,f,c,X,rfl,J⟩))
   rw[Gh hbw H]at G;obtain⟨o',e1,e2⟩:=t.objs b p o h (by grind [AY]);have Z:p≠L:=λe=>H (t.inj _ _ _ h (e▸O));refine⟨o',by rw[N p S Z];exact e1,?_⟩;have hlt:∀{k f:Nat} {c:Array vL},k<n->r k=some (p,f,c)->False:=by grind
   cases e2 with
   |cells hv hz1 hz2=>exact .cells (hv.mono wF) (λx=>x.elim hz1 λ⟨_,_,_,s,e⟩=>(hlt s e).elim) λx=>hz2 λy=>x (.inl y)
   |number l ha=>exact .number l (ha.mono wF)
   |owned G hx=>exact .owned (.inl G) (hx.mono wF)
  rw[Gj s]at G
  cases G
  obtain⟨D,h2,h3,h4⟩:=E k _ _ _ s I;rw[I];refine⟨_,h2,.cells ⟨rfl,λi v v' e A=>?_⟩ (λ_=>rfl) (λx=>absurd (.inr ⟨k,f,c,s,I⟩) x)⟩;rw[e]at A
  cases A
  exact(h3 _ (Af3 e)).self
 ·rcases h with h|⟨k,f,c,s,rfl,I⟩
  ·exact t.glob _ _ h hg
  grind
 grind [iw,BX]
end
end
section
open Go.ConcR (KK WgAt stA smA rd wr mk Payload DC0)
structure aae (w:wD) (C:Nat) (B:Bk) (ks:List Nat) (a a1:Act) (w1:wD):Prop where
 size:a1.tmps.size=29
 same:∀j,¬Chg j->a1.tmps[j]?.getD ud=a.tmps[j]?.getD ud
 row:∃vs:Array vL,w1.heap[C]? =some (.cells vs 138 (0,0))/\vs.size=B.L.length/\∀k,k<B.L.length->∃v,vs[k]? =some v/\eu w1 (λb=>w.heap.size<=b) (B.hist k ks) v
 keep:∀b,b<w.heap.size->b≠C->w1.heap[b]? =w.heap[b]?
 sz:w.heap.size<=w1.heap.size
 os:w1.os=w.os
 output:w1.output=w.output
section
variable [Team tP] {R:vL->wD->Prop} {w:wD} {a:Act} {V:BkV} {B:Bk} {qa:Option aD} {pl pc bb pb ob C:Nat} {c0:Array vL} {ps:List Int} {ks:List Nat}
omit [Team tP] in
def getD_eq(T:Array vL)(j:Nat):T.getD j ud=T[j]?.getD ud:=Array.getD_eq_getD_getElem? ..
def aaf{I:fI->Prop}(Gd:Go.Tp.Good tP I){Fk:fI->Bool}(hF:FC tP Fk λ_=>false)(aF:Fk 144=true)(L:uG w a V B qa pl pc bb pb ob C c0 ps)(hH:BP B ps ks pl)(az:∀a1 w1,aae w C B ks a a1 w1->GLb tP (Aks 96) [.code BN] R a1 w1):GLb tP (Aks 96) (.inRegion yH [0]::[.code nK]) R a w:=by
 intro S dead Rr a' u gs sl t q cs x1 x2 x3 T h0 hL hP;obtain⟨V',aZ,a3,bq,bp,C',c1,A⟩:=L.act x1 T.wr;have F:(Aks 96).kind≠.early:=by intro e;cases e
 have bj:0<gs.size:=(aS.1 h0).1;have aG:C'<u.heap.size:=(aS.1 A.row).1;have av:∀b b',Rr.rel b b'->b<w.heap.size/\b'<u.heap.size:=λb b' h=>by have:=T.wr.dom b b' h;rwa [iw]at this
 have aN:∀d,stepG tP true (G ((Aks 96).at a' (.inRegion yH [0]::[.code nK])) cs) (u.at d)=.go (G ((Aks 96).at (a'.put (some 7) (.pointer (some ⟨u.heap.size,0,none⟩))) (.inRegion yH []::[.code nK])) cs) ((u.at d).alloc (.cells #[.int .u64 0,.int .u32 0] 189)) #[]:=λd=>by
  obtain⟨o,ho,ap,hg,aM⟩:∃o,yH[0]? =some o/\o.op=.alloc 189/\o.guard=none/\o.dst=some 7:=⟨_,rfl,rfl,rfl,rfl⟩;have hr:(execOp a'.eval o).run tP (u.at d)=.ok (.value (.pointer (some ⟨u.heap.size,0,none⟩))) ((u.at d).alloc (.cells #[.int .u64 0,.int .u32 0] 189)):=by unfold execOp;simp only[ap];simp[go_sem];rfl
  have he:(execOp a'.eval o).events tP (u.at d) #[]=#[]:=by unfold execOp;simp only[ap];simp[go_sem]
  rw[stepG_value ho (by simp[Region.wanted,hg]) F hr,listed_nil he,aM]
 obtain⟨N1,d1,X,a2,t1,q1,r1,z1,e1,a7,ba,aI⟩:=ZN (dead:=dead) (f:=λx=>x.alloc (.cells #[.int .u64 0,.int .u32 0] 189)) (u0:=u) rfl aN _ u.drawn gs sl t q rfl h0 hL hP;have bo:runNT tP N1 (crowd gs u sl) t=(.next (crowd X ((u.at d1).alloc (.cells #[.int .u64 0,.int .u32 0] 189)) a2),t1):=r1;clear r1;have N:∀b,b<u.heap.size->((u.at d1).alloc (.cells #[.int .u64 0,.int .u32 0] 189)).heap[b]? =u.heap[b]? :=λb l=>Ai3 (u.at d1) _ b l;have aW:((u.at d1).alloc (.cells #[.int .u64 0,.int .u32 0] 189)).heap[u.heap.size]? =some (.cells #[.int .u64 0,.int .u32 0] 189 (0,0)):=uF (w:=u.at d1);have bv:((u.at d1).alloc (.cells #[.int .u64 0,.int .u32 0] 189)).heap.size=u.heap.size+1:=by simp;rfl
 have aj:((u.at d1).alloc (.cells #[.int .u64 0,.int .u32 0] 189)).tape=u.tape/\((u.at d1).alloc (.cells #[.int .u64 0,.int .u32 0] 189)).os=u.os/\((u.at d1).alloc (.cells #[.int .u64 0,.int .u32 0] 189)).output=u.output:=⟨rfl,rfl,rfl⟩;generalize (u.at d1).alloc (.cells #[.int .u64 0,.int .u32 0] 189)=u1 at*;have K:∀b o v,u.cell? ⟨b,o,none⟩=some v->u1.cell? ⟨b,o,none⟩=some v:=λb o v h=>by rw[Ah0 (w:=u) (N b (wBk u _ h))];exact h
 have aO:0<X.size:=by rw[z1];exact bj
 have a6:¬dead C':=(T.live.at_ C' (.inl A.oC)).2;have bf:¬dead u.heap.size:=λh=>Nat.lt_irrefl _ (T.live.dead _ h)
 let φ:Ph:={f:={n0:=X.size,C:=C',Wg:=u.heap.size,dead:=dead,pos:=aO,CW:=Akr aG,dC:=a6,dW:=bf},n:=B.L.length,small:=L.n.2,tw:=189,val:=λk v m u=>eu u m (B.hist k ks) v,keep:=λi v m u u' h h2=>h2.keep λb l _=>h b l}
 let S0:Nat->Prop:=λb=>(Rr.own b\/S b)/\b≠C'/\b<u.heap.size/\∃c t z,u.heap[b]? =some (.cells c t z)
 have U:∀{x x':Nat},Rr.rel x x'->x≠C->(∃c t z,w.heap[x]? =some (.cells c t z))->S0 x':=λ{x x'} hr Y aV=>by
  obtain⟨c,tt,z,e⟩:=aV;refine⟨T.own _ _ hr,λe2=>Y (T.wr.inj _ _ _ hr (e2▸A.rC)),(av _ _ hr).2,?_⟩;obtain⟨y,y',q1,q2,q3⟩:=T.wr.obj hr;rw[AY,e]at q1
  cases q1
  cases q3 with
  |cells _ _ _=>exact⟨_,_,_,q2⟩
  |owned _ ho=>cases ho
 have ai:∀{o o':Option aD},OAR Rr o o'->aJ w o->(∀y,o=some y->y.block≠C)->∀x,o'=some x->S0 x.block:=λ{o o'} ha hr Y x hx=>by
  cases ha with
  |none=>cases hx
  |some ha=>
   cases ha with
   |mk off s hrel=>
    cases hx
    exact U hrel (Y _ rfl) (hr _ rfl)
 have LA:yI φ u1 S0 V' B aZ pl pc a3 bq bp ps ks:=by
  refine⟨rfl,λi x hx=>K _ _ _ (A.book i x hx),K _ _ _ A.ph,K _ _ _ A.out,λb l=>?_,ai A.ren.za L.za λy hy=>L.ne _ (.inr (.inr (.inr ⟨y,.inl hy,rfl⟩))),ai A.ren.la L.la λy hy=>L.ne _ (.inr (.inr (.inr ⟨y,.inr (.inl hy),rfl⟩))),ai A.ren.ca L.ca λy hy=>L.ne _ (.inr (.inr (.inr ⟨y,.inr (.inr (.inl hy)),rfl⟩))),ai A.ren.pa L.pa λy hy=>L.ne _ (.inr (.inr (.inr ⟨y,.inr (.inr (.inr (.inl hy))),rfl⟩))),ai A.rq L.rq λy hy=>L.ne _ (.inr (.inr (.inr ⟨y,.inr (.inr (.inr (.inr hy))),rfl⟩))),A.at_.map λb o v _ h=>K _ _ _ h,A.nums.map λb o v _ h=>K _ _ _ h,?_,rfl,λk v m u=>Iff.rfl,λk w F M h2=>hH V' aZ pc k w F M h2⟩
  ·simp only[Ab3,Aav,or_false]at l
   rcases l with rfl|rfl|rfl
   ·exact U A.rb (L.ne _ (.inl rfl)) (AX (L.book 0 _ rfl))
   ·exact U A.rp (L.ne _ (.inr (.inl rfl))) (AX L.ph)
   exact U A.ro (L.ne _ (.inr (.inr (.inl rfl)))) (AX L.out)
  exact Agd T.wr.bigU zP
 have M0:MKL u1 S0 C' u.heap.size ⟨λ_=>False,S0⟩ u1:=by
  refine⟨λ_ _=>rfl,nR _,λb l=>.inr l,λb l=>?_,λb l=>?_,λb l=>by have:=l.2.2.1;omega,zP,zP⟩
  ·have l:S0 b:=l.elim (λx=>x.elim) id
   obtain⟨_,_,h3,c,tt,z,e⟩:=l;exact⟨c,tt,z,by rw[N b h3];exact e⟩
  have l:S0 b:=l.elim (λx=>x.elim) id
  exact⟨l.2.1,Akr l.2.2.1⟩
 have ax:a'.tmps.size=29:=by rw[<-x1.size];exact L.size
 have ac:=dU a' (d:=7) (.pointer (some ⟨u.heap.size,0,none⟩)) (by rw[ax];decide);have aC:∀j,Chg j->wB (a'.tmps[j]?.getD ud):=λj hj=>by
  have:=x1.getD j;rw[getD_eq,getD_eq,L.fresh j hj]at this;generalize a'.tmps[j]?.getD ud=v at this
  cases this with
  | @tuple _ c' M _=>right;have h2:c'=#[]:=Ake M.symm;rw[h2];rfl
  |poison hs=>exact .inl hs
 have aR:LSt a'.tmps (a'.put (some 7) (.pointer (some ⟨u.heap.size,0,none⟩))):=by
  refine⟨ac.size.trans ax,ac.defers.trans x2,λj hj=>ac.other j λe=>hj (by subst e;exact .inl rfl),λj hj _=>?_⟩;by_cases e:j=7
  ·subst e;rw[ac.same];exact BO
  rw[ac.other j e];exact aC j hj
 have Z:∀b,(⟨λ_=>False,S0⟩:Hold).mine b\/(⟨λ_=>False,S0⟩:Hold).sh b->S0 b:=λb l=>l.elim (λx=>x.elim) id;have ak:=ZU (φ:=φ) (H:=⟨λ_=>False,S0⟩) Gd hF aF LA A.p2 A.p3 A.p6 (Aks 96) F cs _ aR ac.same M0;have ao:Live φ.f.dead ⟨λ_=>False,S0⟩ u1:=⟨λb l=>by have:=Z b l;exact⟨by have:=this.2.2.1;omega,(T.live.at_ b this.1).2⟩,λb l=>by have:=T.live.dead b l;omega⟩;have aU:=Xv (sl:=a2) ak rfl e1 a7 (ba.mono zP) ao (untouched (λop ap=>hP.seen op ap) (nR _) aI (λh=>h.elim id id)) (λh=>(Z _ h).2.1 rfl) (λh=>Nat.lt_irrefl _ (Z _ h).2.2.1) (λb h=>h.elim) aW ⟨c1,by rw[N _ aG];exact A.row,A.rsz⟩;obtain⟨N2,a4,H2,g2,u2,br,t2,q2,D,r2,z2,e2,bz,⟨aE,m,ag,bA,aY,bi⟩,a8,bc,af,bx,aB,ae,ar,bt,bh,bw,W⟩:=aU;clear ak aR M0 LA aI aN;have aw:∀k,∃r:Option (Nat×Nat×Array vL),k<B.L.length->(r=none/\B.hist k ks=[]/\(D k).val=.slice none 0 0)\/
  ∃o p c,r=some (o,p,c)/\B.hist k ks≠[]/\(D k).val=.slice (some ⟨o,0,none⟩) (B.hist k ks).length p/\(H2 (X.size+k)).mine o/\u2.heap[o]? =some (.cells c 132 (0,0))/\c.size=p*10/\(B.hist k ks).length<=p/\(∀(i:Nat) (x:vL),(gQ (B.hist k ks))[i]? =some x->c[i]? =some x)/\∀x∈c,Imm x:=λk=>by
  by_cases aQ:k<B.L.length
  ·rcases(af k aQ).2 with⟨M,h2⟩|⟨M,o,p,c,h2⟩
   ·exact⟨none,λ_=>.inl ⟨rfl,M,h2⟩⟩
   exact⟨some (o,p,c),λ_=>.inr ⟨o,p,c,rfl,M,h2⟩⟩
  exact⟨none,λh=>absurd h aQ⟩
 obtain⟨r,hr⟩:=Classical.skolem.1 aw;clear aw;obtain⟨ay,bg,bm⟩:=aB;have au:u2.heap[C']? =some (.cells ay 138 (0,0)):=bg;have aT:ay.size=B.L.length:=bm;have am:∀k,k<B.L.length->ay[k]? =some (D k).val:=λk F=>by have:u2.cell? ⟨C',k,none⟩=some (D k).val:=(af k F).1;simpa[Aeq,au]using this
 have J:∀{k o p:Nat} {c:Array vL},k<B.L.length->r k=some (o,p,c)->B.hist k ks≠[]/\(D k).val=.slice (some ⟨o,0,none⟩) (B.hist k ks).length p/\(H2 (X.size+k)).mine o/\u2.heap[o]? =some (.cells c 132 (0,0))/\c.size=p*10/\(B.hist k ks).length<=p/\(∀(i:Nat) (x:vL),(gQ (B.hist k ks))[i]? =some x->c[i]? =some x)/\∀x∈c,Imm x:=λ{k o p c} F e=>by
  rcases hr k F with⟨M,_⟩|⟨o2,cap2,c2,M,h2⟩
  ·rw[e]at M;cases M
  rw[e]at M;cases M;exact h2
 have aP:∀{k o p:Nat} {c:Array vL},k<B.L.length->r k=some (o,p,c)->u.heap.size+1<=o:=λ{k o p c} F e=>by have:=ae.kids k F o (J F e).2.2.1;omega
 have bn:u.heap.size<=u2.heap.size:=zP
 have aX:=aad (w:=w) (C:=C) (n:=B.L.length) (len:=λk=>(B.hist k ks).length) (r:=r) (u1:=u2) T.wr A.rC A.oC L.row bn
  (λb' l Y=>(ae.keep b' zP (Akr l) Y (λx=>x)).trans (N b' l)) au aT
  (λk o p c F e=>⟨by have:=aP F e;omega,(J F e).2.2.2.1,(J F e).2.2.2.2.2.2.2,(am k F).trans (congrArg some (J F e).2.1)⟩)
  (λk F e=>by
   rcases hr k F with⟨_,_,h3⟩|⟨_,_,_,M,_⟩
   ·rw[am k F,h3]
   rw[e]at M;cases M)
  (λj k o p c cap2 c2 hj F ej ek=>by
   by_cases bk:j=k
   ·exact bk
   exact absurd (J F ek).2.2.1 (ar.mm (X.size+j) (X.size+k) o (.inr ⟨j,hj,rfl⟩) (.inr ⟨k,F,rfl⟩) zP (J hj ej).2.2.1))
 have ah:∀b b',(qE Rr w B.L.length r).rel b b'->(qE Rr w B.L.length r).own b'\/S b':=λb b' h=>by
  rcases h with h|⟨k,p,c,F,_,e⟩
  ·exact(T.own _ _ h).imp .inl id
  exact .inl (.inr ⟨k,p,c,F,e⟩)
 have ab:∀b,(qE Rr w B.L.length r).own b\/S b->b<u2.heap.size/\¬(dead b\/b=u.heap.size):=λb h=>by
  rcases h with(h|⟨k,p,c,F,e⟩)|h
  ·have:=T.live.at_ b (.inl h)
   exact⟨zP,λx=>x.elim this.2 λy=>zP⟩
  rotate_left
  ·have:=T.live.at_ b (.inr h)
   exact⟨zP,λx=>x.elim this.2 λy=>zP⟩
  have M:=J F e
  have h2:=ar.no (X.size+k) b (.inr ⟨k,F,rfl⟩) (.inl M.2.2.1);exact⟨(aS.1 M.2.2.2.1).1,λx=>x.elim h2.2.2 h2.2.1⟩
 have aL:∀b,(dead b\/b=u.heap.size)->b<u2.heap.size:=λb h=>h.elim (λh=>by have:=T.live.dead b h;omega) λh=>by omega
 have aq:aH tP true (λ_ g _=>g=G ((Aks 96).at (aE.put (some 24) (.tuple #[])) [.code BN]) cs) (⟨λ_=>False,λb=>(qE Rr w B.L.length r).own b\/S b⟩,g2,u2):=
  (LC rfl bi).bind λH g u' hs=>by obtain⟨rfl,rfl⟩:=hs u' (Off.refl _ _);exact oM (.stop rfl λ_ _=>rfl)
 obtain⟨N3,a5,H3,g3,u3,bs,t3,q3,r3,_,e3,_,rfl,bu,E,a9,bd⟩:=xR (dead:=λb=>dead b\/b=u.heap.size) aq u2 a4 br t2 q2 (Off.refl _ _) ⟨λb l=>ab b (l.elim (λx=>x.elim) id),aL⟩ e2 a8 bc;have aA:Off ⟨(qE Rr w B.L.length r).own,S⟩ u2 u3:=⟨E.size,λb l _=>E.keep b l λx=>x,E.same⟩;have bl:Go.Tp.Mod tP S (λb=>dead b\/b=u.heap.size) (qE Rr w B.L.length r) (lY w C B.L.length (λk=>(B.hist k ks).length) r) u3:=by
  refine⟨aX.off ah aA,ah,λx hx=>wF.rel _ _ (T.gl x hx),⟨λb l=>?_,λb l=>Ajg (aL b l) E.size⟩,λb l h=>?_⟩
  ·have:=ab b l
   exact⟨Ajg this.1 E.size,this.2⟩
  rcases h with h|⟨k,p,c,F,e⟩
  ·exact T.sep b l h
  have:=aP F e
  have:=(T.live.at_ b (.inr l)).1;omega
 have aa:∀b,S b->b<u.heap.size:=λb l=>(T.live.at_ b (.inr l)).1;have be:∀b,S b->b≠C':=λb l e=>T.sep b l (e▸A.oC);refine Out.ahead bo (.refl _) ⟨aj.1,aj.2.1,aj.2.2,λb l=>N b (aa b l)⟩ (Out.ahead r2 (R':=Rr) (.refl _) ⟨W.1,W.2.1,W.2.2,λb l=>ae.keep b (by have:=aa b l;omega) (Akr (aa b l)) (be b l) λx=>x⟩ (Out.ahead (R':=qE Rr w B.L.length r) r3 wF ⟨E.same.1,E.same.2.1,E.same.2.2,λb l=>E.keep b (by have:=aa b l;omega) λx=>x⟩ ?_));have Q:=dU aE (d:=24) (.tuple #[]) (by rw[ag.size];decide);have O:=dU a (d:=19) (.bool false) (by rw[L.size];decide);refine az (a.put (some 19) (.bool false)) _ ?_ _ _ _ (aE.put (some 24) (.tuple #[])) u3 a5 bs t3 q3 cs ?_ (Q.defers.trans ag.defers) (aac x3) bl e3 a9 bd
 ·refine⟨O.size.trans L.size,λj hj=>O.other j λe=>hj (by subst e;exact .inr (.inr ⟨zE,zE⟩)),⟨_,Gi (av _ _ A.rC).1,yW,λk F=>?_⟩,λb l Y=>Gh l Y,by rw[BX];omega,rfl,rfl⟩
  refine⟨BU (w.heap.size+k) (B.hist k ks).length (r k),by simp[F],?_⟩
  rcases hr k F with⟨M,h2,_⟩|⟨o,p,c,M,h2,_,_,_,h3⟩
  ·rw[M];exact .inl ⟨h2,rfl⟩
  rw[M]
  refine .inr ⟨h2,w.heap.size+k,p,c,rfl,Nat.le_add_right _ _,?_,h3⟩;rw[Gj F,M];rfl
 refine⟨(O.size.trans L.size).trans (Q.size.trans ag.size).symm,λj v v' e e'=>?_⟩
 have g:(a.put (some 19) (.bool false)).tmps[j]?.getD ud=v:=by rw[e];rfl
 have g':(aE.put (some 24) (.tuple #[])).tmps[j]?.getD ud=v':=by rw[e'];rfl
 by_cases hc:Chg j
 ·by_cases ad:j=19
  ·subst ad
   rw[O.same]at g;rw[Q.other 19 zE,aY]at g';subst g g';exact .bool _
  rw[O.other j ad,L.fresh j hc]at g
  subst g;have ht:wB v':=by
   by_cases an:j=24
   ·subst an;rw[Q.same]at g';subst g';exact .inr rfl
   rw[Q.other j an]at g';subst g';exact ag.tame j hc ad
  rcases ht with ht|ht
  ·exact .poison ht
  subst ht;exact rE
 have ad:j≠19:=λh=>hc (by subst h;exact .inr (.inr ⟨zE,zE⟩))
 have an:j≠24:=λh=>hc (by subst h;exact .inr (.inr ⟨zE,zE⟩));rw[O.other j ad]at g;rw[Q.other j an,ag.same j hc]at g';subst g g';have:=(x1.mono (wF (Rr:=Rr) (w:=w) (n:=B.L.length) (r:=r))).getD j;rwa [getD_eq,getD_eq]at this
end
end
end Go.Proofs.Y
namespace Go.Proofs.Y
open Go.RowKit Go.Tp Go.Meter
def aag:t138.bytes=24:=rfl
def run_makeSlice{n:Nat}(hn:n<2147483647)(u:wD):(Instr.makeSlice 116 (.int qi (n:Int)) (.int qi (n:Int))).run tP u=.ok (.slice (some ⟨u.heap.size,0,none⟩) n n) (u.alloc (.cells (Afc n (.slice none 0 0)) 138)):=by
 have c:IntKind.i64.wrap (n:Int)=(n:Int):=IntWalk.i64_in _ zP;unfold Instr.makeSlice;simp[go_sem,c];clear c;have f:¬(((n:Int)<0\/281474976710656<(t138.bytes:Int)*(n:Int))\/(n:Int)<0):=by rw[aag];omega
 rw[if_neg f];by_cases e:n=0
 ·subst e;rw[if_pos rfl];have:Array.map (λ_:Nat=>(default:vL)) (Aep 0)=Afc 0 (.slice none 0 0):=Ake yW|>.trans yW;rw[this]
 rw[if_neg e];have:Array.map (λx=>[Aj5 none 0 0][x % 1]?.getD default) (Aep n)=Afc n (.slice none 0 0):=by
  apply Array.ext_getElem?;intro i;rw[Array.getElem?_map,Ae1,Array.getElem?_range]
  split<;>simp[Nat.mod_one]
 rw[this]
def Oh(a:Option aD)(n c:Nat)(w:wD):cF tP 147 #[.slice a n c] w λe f=>e=rT (.bool (decide (n=0)))/\w=f:=by
 go_enter func147,ntmps147;go_wp2;go_ret;refine⟨?_,rfl⟩
 show Ending.returned (Value.bool _)=_
 congr 2
 rw[Ai4];simp
def aah(C n:Nat)(o:Nat->Option aD)(len f:Nat->Nat)(hn:n<2147483647)(w:wD)(hc:∀k,k<n->w.cell? ⟨C,k,none⟩=some (.slice (o k) (len k) (f k))):
 cF tP 188 #[.slice (some ⟨C,0,none⟩) n n,.func (.func 147) #[] #[]] w λe q=>(∃r:Int,e=rT (.int qi r)/\(0<=r↔ ∃k,k<n/\len k=0))/\w=q:=by
 go_enter func188,ntmps188;go_wp2
 go_loopw [8] (λi wr=>w=wr/\∃k:Nat,k<=n/\i=.int qi (k:Int)/\∀j,j<k->len j≠0) (λi _=>n-(intOf i).toNat)
 case atStart=>exact⟨rfl,0,zP,rfl,λj c=>zP⟩
 case round=>
  obtain⟨rfl,k,t,rfl,c⟩:=hrel;have g:=lH c;clear c;by_cases hlt:k<n
  ·have p:=hc k hlt;by_cases l:len k=0
   ·go_wp2_with (first|(go_at_call 147;refine(Oh _ _ _ _).mono ?_;rintro e w1 ⟨rfl,rfl⟩))
    go_ret;exact⟨⟨k,rfl,⟨λ_=>⟨k,hlt,l⟩,λ_=>zP⟩⟩,rfl⟩
   go_wp2_with (first|(go_at_call 147;refine(Oh _ _ _ _).mono ?_;rintro e w1 ⟨rfl,rfl⟩))
   go_roundw
   case rel=>exact⟨trivial,k+1,zP,by refine congrArg _ ?_;omega,λj c=>(Nat.lt_succ_iff_lt_or_eq.1 c).elim (g.out j) λh=>h▸l⟩
   case measure=>simp[intOf];omega
  go_wp2;go_ret;exact⟨⟨-1,rfl,⟨λh=>absurd h zP,λ⟨j,s,h2⟩=>absurd h2 (g.out j zP)⟩⟩,rfl⟩
def c146(C n:Nat)(o:Nat->Option aD)(len c:Nat->Nat)(hn:n<2147483647)(w:wD)(hc:∀k,k<n->w.cell? ⟨C,k,none⟩=some (.slice (o k) (len k) (c k))):
 cF tP 146 #[.slice (some ⟨C,0,none⟩) n n,.func (.func 147) #[] #[]] w λe g=>e=rT (.bool (decide (∃k,k<n/\len k=0)))/\w=g:=by
 go_enter func146,ntmps146
 go_wp2_with (first|(go_at_call 188;refine(aah C n o len c hn _ hc).mono ?_;rintro e w1 ⟨⟨r,rfl,f⟩,rfl⟩))
 go_ret;refine⟨?_,rfl⟩
 first
 |rfl
 |(refine congrArg _ (congrArg _ ?_);rw[Ai4];simp only[decide_eq_true_eq];done)
 |(refine congrArg _ (congrArg _ ?_);rw[Ai4];simp only[decide_eq_true_eq];exact f)
end Go.Proofs.Y
namespace Go.Proofs.Y
open Go.RowKit Go.Tp Go.Meter Go.Conc Go.ConcN Go.Conc.Lib Go.ConcR.Gen Go.ConcN.Gen
section
open Go.ConcR (KK WgAt stA smA rd wr mk Payload DC0)
def Oi(w:wD)(B:Bk)(ks:List Nat)(v:vL)(w':wD):Prop:=
 ∃(C:Nat) (c:Array vL),w.heap.size<=C/\v=.tuple #[.slice (some ⟨C,0,none⟩) B.L.length B.L.length,.bool (decide (∀k,k<B.L.length->B.hist k ks≠[]))]/\w'.heap[C]? =some (.cells c 138 (0,0))/\c.size=B.L.length/\
  (∀k,k<B.L.length->∃v,c[k]? =some v/\eu w' (λb=>w.heap.size<=b) (B.hist k ks) v)/\(∀b,b<w.heap.size->w'.heap[b]? =w.heap[b]?)/\w.heap.size<=w'.heap.size/\w'.os=w.os/\w'.output=w.output
section
variable [Team tP] {w:wD} {V:BkV} {B:Bk} {qa:Option aD} {pl pc:Nat} {ps:List Int} {ks:List Nat}
def aai{I:fI->Prop}(Gd:Go.Tp.Good tP I){Fk:fI->Bool}(hF:FC tP Fk λ_=>false)(ah:Fk 144=true)(aB:aI w V B)(hn:aF w qa ps)(hza:aJ w V.za)(ap:aJ w V.la)(ao:aJ w V.ca)(ar:aJ w V.pa)(au:aJ w qa)(ai:tF tP 146=true)(aj:tF tP 147=true)(hl:0<B.L.length/\B.L.length<2147483647)(hg:tP.globals.size<=w.heap.size)(hH:BP B ps ks pl):bT tP 96 #[V.val B,.slice qa pl pc] w (Oi w B ks):=by
 refine iU (fn:=f96) (x:=rX) rfl rfl ?_;have g:(Aks 96).kind≠.early:=by intro e;cases e
 have ha:(#[V.val B,.slice qa pl pc]++Afc (f96.ntmps-(#[V.val B,Aj5 qa pl pc]:Array vL).size) ud).size=29:=yW
 have e0:(#[V.val B,.slice qa pl pc]++Afc (f96.ntmps-(#[V.val B,Aj5 qa pl pc]:Array vL).size) ud)[0]?.getD ud=V.val B:=yW
 have e1:(#[V.val B,.slice qa pl pc]++Afc (f96.ntmps-(#[V.val B,Aj5 qa pl pc]:Array vL).size) ud)[1]?.getD ud=.slice qa pl pc:=yW
 have ez:∀j,1<j->(#[V.val B,.slice qa pl pc]++Afc (f96.ntmps-(#[V.val B,Aj5 qa pl pc]:Array vL).size) ud)[j]?.getD ud=ud:=λj hj=>by
  rw[Array.getElem?_append_right xL,Ae1]
  split<;>rfl
 generalize (#[V.val B,.slice qa pl pc]++Afc (f96.ntmps-(#[V.val B,Aj5 qa pl pc]:Array vL).size) ud)=T at*;simp only[rX,f96,Agx];refine aQ (bK ?_);refine qA (d:=2) (.pointer (some ⟨w.heap.size,0,none⟩)) (.cells (V.row B) 112) (okA rfl) rfl g (by rw[ha];decide) (λτ d=>?_) λa1 p1=>?_
 ·simp[go_sem,e0]
  first|exact⟨by rw[aP],by rw[iV];rfl⟩|rw[aP]
 have O:=p1.size.trans ha;have f0:a1.tmps[1]?.getD ud=.slice qa pl pc:=(p1.other 1 zE).trans e1;refine qA (d:=3) (.pointer (some ⟨w.heap.size+1,0,none⟩)) (.cells #[.slice qa pl pc] 28) (okA rfl) rfl g (by rw[O];decide) (λτ d=>?_) λa2 p2=>?_
 ·simp[go_sem,f0]
  first|exact⟨by rw[aP];simp,by rw[iV];rfl⟩|(rw[aP];simp)
 refine fO (d:=4) (.slice none 0 0) (okA rfl) rfl g (by rw[p2.size,O];decide) (λτ d=>?_) λa3 p3=>?_
 ·simp[go_sem]
 refine fO (d:=5) (.bool false) (okA rfl) rfl g (by rw[p3.size,p2.size,O];decide) (λτ d=>?_) λa4 p4=>?_
 ·simp[go_sem]
 refine bM (aQ (bK ?_));have Q:a4.tmps.size=29:=by rw[p4.size,p3.size,p2.size,O]
 have q2:a4.tmps[2]?.getD ud=.pointer (some ⟨w.heap.size,0,none⟩):=by rw[p4.other 2 zE,p3.other 2 zE,p2.other 2 zE];exact p1.same
 have q3:a4.tmps[3]?.getD ud=.pointer (some ⟨w.heap.size+1,0,none⟩):=by rw[p4.other 3 zE,p3.other 3 zE];exact p2.same
 have qz:∀j,5<j->a4.tmps[j]?.getD ud=ud:=λj hj=>by rw[p4.other j zP,p3.other j zP,p2.other j zP,p1.other j zP];exact ez j zP
 have K:((w.alloc (.cells (V.row B) 112)).alloc (.cells #[.slice qa pl pc] 28)).heap[w.heap.size]? =some (.cells (V.row B) 112 (0,0)):=by rw[Ai3 _ _ _ yW];exact uF
 have hp:((w.alloc (.cells (V.row B) 112)).alloc (.cells #[.slice qa pl pc] 28)).heap[w.heap.size+1]? =some (.cells #[.slice qa pl pc] 28 (0,0)):=by
  have:(w.alloc (.cells (V.row B) 112)).heap.size=w.heap.size+1:=yW
  rw[<-this];exact uF
 have aq:∀b,b<w.heap.size->((w.alloc (.cells (V.row B) 112)).alloc (.cells #[.slice qa pl pc] 28)).heap[b]? =w.heap[b]? :=λb K=>by rw[Ai3 _ _ _ xL,Ai3 _ _ _ K]
 have D:((w.alloc (.cells (V.row B) 112)).alloc (.cells #[.slice qa pl pc] 28)).heap.size=w.heap.size+2:=yW
 have av:((w.alloc (.cells (V.row B) 112)).alloc (.cells #[.slice qa pl pc] 28)).os=w.os/\((w.alloc (.cells (V.row B) 112)).alloc (.cells #[.slice qa pl pc] 28)).output=w.output:=⟨rfl,rfl⟩;generalize (w.alloc (.cells (V.row B) 112)).alloc (.cells #[.slice qa pl pc] 28)=w1 at*;clear p1 p2 p3 p4 e0 e1 ez f0 O;refine fO (d:=9) (.pointer (some ⟨w.heap.size,0,none⟩)) (okA rfl) rfl g (by rw[Q];decide) (λτ d=>?_) λa5 p5=>?_
 ·simp[go_sem,q2]
 have q9:a5.tmps[9]?.getD ud=.pointer (some ⟨w.heap.size,0,none⟩):=p5.same;refine fO (d:=10) (.pointer (some ⟨w.heap.size,4,none⟩)) (okA rfl) rfl g (by rw[p5.size,Q];decide) (λτ d=>?_) λa6 p6=>?_
 ·simp[go_sem,q9]
 have aL:a6.tmps[10]?.getD ud=.pointer (some ⟨w.heap.size,4,none⟩):=p6.same;have aC:∀τ d,(w1.tp τ d noJ).cell? ⟨w.heap.size,4,none⟩=some (.slice V.la B.L.length V.lc):=λτ d=>by rw[aT];simp[Aeq,K]
 refine fO (d:=11) (.slice V.la B.L.length V.lc) (okA rfl) rfl g (by rw[p6.size,p5.size,Q];decide) (λτ d=>?_) λa7 p7=>?_
 ·simp[go_sem,aL,aC]
 have aM:a7.tmps[11]?.getD ud=.slice V.la B.L.length V.lc:=p7.same;refine fO (d:=12) (.int qi (B.L.length:Int)) (okA rfl) rfl g (by rw[p7.size,p6.size,p5.size,Q];decide) (λτ d=>?_) λa8 p8=>?_
 ·simp[go_sem,aM]
 have aN:a8.tmps[12]?.getD ud=.int qi (B.L.length:Int):=p8.same;have am:a8.tmps.size=29:=by rw[p8.size,p7.size,p6.size,p5.size,Q]
 refine qA (d:=13) (.slice (some ⟨w.heap.size+2,0,none⟩) B.L.length B.L.length) (.cells (Afc B.L.length (.slice none 0 0)) 138) (okA rfl) rfl g (by rw[am];decide) (λτ d=>?_) λa9 p9=>?_
 ·simp[go_sem,aN,run_makeSlice hl.2];rw[aP];exact D
 have an:a9.tmps.size=29:=p9.size.trans am;refine qA (d:=6) (.pointer (some ⟨w.heap.size+3,0,none⟩)) (.cells #[.slice none 0 0] 116) (okA rfl) rfl g (by rw[an];decide) (λτ d=>?_) λM S=>?_
 ·simp[go_sem];rw[aP];simp[D]
 have ak:M.tmps.size=29:=S.size.trans an;have q6:M.tmps[6]?.getD ud=.pointer (some ⟨w.heap.size+3,0,none⟩):=S.same;have aO:M.tmps[13]?.getD ud=.slice (some ⟨w.heap.size+2,0,none⟩) B.L.length B.L.length:=by rw[S.other 13 zE];exact p9.same
 have az:((w1.alloc (.cells (Afc B.L.length (.slice none 0 0)) 138)).alloc (.cells #[.slice none 0 0] 116)).heap[w.heap.size+2]? =some (.cells (Afc B.L.length (.slice none 0 0)) 138 (0,0)):=by rw[Ai3 _ _ _ (by simp[D]),<-D];exact uF
 have af:((w1.alloc (.cells (Afc B.L.length (.slice none 0 0)) 138)).alloc (.cells #[.slice none 0 0] 116)).heap[w.heap.size+3]? =some (.cells #[.slice none 0 0] 116 (0,0)):=by
  have:(w1.alloc (.cells (Afc B.L.length (.slice none 0 0)) 138)).heap.size=w.heap.size+3:=by simp[D]
  rw[<-this];exact uF
 have G:∀b,b<w.heap.size+2->((w1.alloc (.cells (Afc B.L.length (.slice none 0 0)) 138)).alloc (.cells #[.slice none 0 0] 116)).heap[b]? =w1.heap[b]? :=λb K=>by rw[Ai3 _ _ _ (by simp[D];omega),Ai3 _ _ _ (by rw[D];exact K)]
 have aw:((w1.alloc (.cells (Afc B.L.length (.slice none 0 0)) 138)).alloc (.cells #[.slice none 0 0] 116)).heap.size=w.heap.size+4:=by simp[D]
 have ac:((w1.alloc (.cells (Afc B.L.length (.slice none 0 0)) 138)).alloc (.cells #[.slice none 0 0] 116)).os=w1.os/\((w1.alloc (.cells (Afc B.L.length (.slice none 0 0)) 138)).alloc (.cells #[.slice none 0 0] 116)).output=w1.output:=⟨rfl,rfl⟩;generalize (w1.alloc (.cells (Afc B.L.length (.slice none 0 0)) 138)).alloc (.cells #[.slice none 0 0] 116)=J at*;refine oW (w1:=J.setCell ⟨w.heap.size+3,0,none⟩ (.slice (some ⟨w.heap.size+2,0,none⟩) B.L.length B.L.length)) (okA rfl) rfl g (λτ d=>⟨d,?_⟩) ?_
 ·have hc6:(J.tp τ d noJ).cell? ⟨w.heap.size+3,0,none⟩=some (.slice none 0 0):=by rw[aT];simp[Aeq,af]
  have aG:(J.tp τ d noJ).frozen? ⟨w.heap.size+3,0,none⟩=false:=by rw[lI _ _ _ dS];simp[Aem,af]
  simp[go_sem,q6,aO,hc6,aG,qy]
 have Y:∀b,b≠w.heap.size+3->(J.setCell ⟨w.heap.size+3,0,none⟩ (.slice (some ⟨w.heap.size+2,0,none⟩) B.L.length B.L.length)).heap[b]? =J.heap[b]? :=λb K=>xZ J _ _ K;have ae:(J.setCell ⟨w.heap.size+3,0,none⟩ (.slice (some ⟨w.heap.size+2,0,none⟩) B.L.length B.L.length)).cell? ⟨w.heap.size+3,0,none⟩=some (.slice (some ⟨w.heap.size+2,0,none⟩) B.L.length B.L.length):=by simp[Aeq,World.setCell,Array.getElem?_modify,af]
 have aR:(J.setCell ⟨w.heap.size+3,0,none⟩ (.slice (some ⟨w.heap.size+2,0,none⟩) B.L.length B.L.length)).heap.size=w.heap.size+4:=by simp[aw]
 have ad:(J.setCell ⟨w.heap.size+3,0,none⟩ (.slice (some ⟨w.heap.size+2,0,none⟩) B.L.length B.L.length)).os=J.os/\(J.setCell ⟨w.heap.size+3,0,none⟩ (.slice (some ⟨w.heap.size+2,0,none⟩) B.L.length B.L.length)).output=J.output:=⟨rfl,rfl⟩;generalize J.setCell ⟨w.heap.size+3,0,none⟩ (.slice (some ⟨w.heap.size+2,0,none⟩) B.L.length B.L.length)=w3 at*;have H:∀b,b<w.heap.size->w3.heap[b]? =w.heap[b]? :=λb K=>by rw[Y b zP,G b zP,aq b K]
 have N:∀(b o:Nat) (v:vL),w.cell? ⟨b,o,none⟩=some v->w3.cell? ⟨b,o,none⟩=some v:=λb o v h=>by rw[Ah0 (w:=w) (H b (wBk w _ h))];exact h
 have F:∀{o:Option aD},aJ w o->aJ w3 o:=λh x hx=>by obtain⟨c,t,z,e⟩:=h x hx;exact⟨c,t,z,by rw[H _ (aS.1 e).1];exact e⟩
 have q:∀{o:Option aD},aJ w o->∀y,o=some y->y.block<w.heap.size:=λh y hy=>by obtain⟨c,t,z,e⟩:=h y hy;exact(aS.1 e).1
 have s:∀j,j≠6->j≠9->j≠10->j≠11->j≠12->j≠13->M.tmps[j]?.getD ud=a4.tmps[j]?.getD ud:=λj Z h2 h3 h4 h5 h6=>by rw[S.other j Z,p9.other j h6,p8.other j h5,p7.other j h4,p6.other j h3,p5.other j h2]
 have L:uG w3 M V B qa pl pc w.heap.size (w.heap.size+1) (w.heap.size+3) (w.heap.size+2) (Afc B.L.length (.slice none 0 0)) ps:=by
  refine⟨ak,λj hj=>?_,?_,?_,q6,λi x hx=>?_,?_,ae,?_,yW,?_,?_,F hza,F ap,F ao,F ar,F au,λx hx=>?_,hl,zP⟩
  ·unfold Chg at hj;rw[s j zP zP zP zP zP zP];exact qz j zP
  ·rw[s 2 zE zE zE zE zE zE];exact q2
  ·rw[s 3 zE zE zE zE zE zE];exact q3
  ·have:w3.heap[w.heap.size]? =some (.cells (V.row B) 112 (0,0)):=by rw[Y _ zP,G _ zP];exact K
   simp only[Aeq,this];exact hx
  ·have:w3.heap[w.heap.size+1]? =some (.cells #[.slice qa pl pc] 28 (0,0)):=by rw[Y _ zP,G _ zP];exact hp
   simp[Aeq,this]
  ·rw[Y _ zP];exact az
  ·exact aB.map λb o v _ h=>N b o v h
  ·exact hn.map λb o v _ h=>N b o v h
  rcases hx with rfl|rfl|rfl|⟨y,hy,rfl⟩
  ·omega
  ·omega
  ·omega
  have:y.block<w.heap.size:=by
   rcases hy with h|h|h|h|h
   ·exact q hza y h
   ·exact q ap y h
   ·exact q ao y h
   ·exact q ar y h
   exact q au y h
  omega
 refine bM (aQ (bK ?_));refine aaf Gd hF ah L hH λaE wE E=>?_;clear s qz p5 p6 p7 p8 p9 S;obtain⟨vs,ay,aH,ax⟩:=E.row;have aa:wE.cell? ⟨w.heap.size+3,0,none⟩=some (.slice (some ⟨w.heap.size+2,0,none⟩) B.L.length B.L.length):=by rw[Ah0 (w:=w3) (E.keep (w.heap.size+3) zP zP)];exact ae
 have r6:aE.tmps[6]?.getD ud=.pointer (some ⟨w.heap.size+3,0,none⟩):=by rw[E.same 6 (by unfold Chg;omega)];exact q6
 obtain⟨o,len,A,ag⟩:∃(o:Nat->Option aD) (len A:Nat->Nat),∀k,k<B.L.length->vs[k]? =some (.slice (o k) (len k) (A k))/\(len k=0↔B.hist k ks=[]):=by
  have:∀k,∃x:Option aD×Nat×Nat,k<B.L.length->vs[k]? =some (.slice x.1 x.2.1 x.2.2)/\(x.2.1=0↔B.hist k ks=[]):=λk=>by
   by_cases g:k<B.L.length
   ·obtain⟨v,Z,h2⟩:=ax k g
    rcases h2 with⟨h3,rfl⟩|⟨h3,o,A,c,rfl,_⟩
    ·exact⟨(none,0,0),λ_=>⟨Z,by simp[h3]⟩⟩
    exact⟨(some ⟨o,0,none⟩,(B.hist k ks).length,A),λ_=>⟨Z,yW⟩⟩
   exact⟨(none,0,0),λh=>absurd h g⟩
  obtain⟨x,hx⟩:=Classical.skolem.1 this;exact⟨λk=>(x k).1,λk=>(x k).2.1,λk=>(x k).2.2,hx⟩
 have U:∀k,k<B.L.length->wE.cell? ⟨w.heap.size+2,k,none⟩=some (.slice (o k) (len k) (A k)):=λk g=>by simp only[Aeq,ay];exact(ag k g).1
 generalize hX:decide (∃k,k<B.L.length/\len k=0)=X at*;have aA:(!X)=decide (∀k,k<B.L.length->B.hist k ks≠[]):=by rw[<-hX,Ai4];simp only[Aec,decide_eq_false_iff_not,decide_eq_true_eq,not_exists,not_and];exact⟨λh k g e=>h k g ((ag k g).2.2 e),λh k g e=>h k g ((ag k g).2.1 e)⟩
 simp only[BN,lr9,nK,lr2,rX,f96,Agx];refine aQ (Zl rfl [[],[],[1],[2],[0,2],[0,1,2,3,4]] xD xD (λi=>[25,26,27,28,4,5].getD i 0)
  (λi=>[Aj5 (some ⟨w.heap.size+2,0,none⟩) B.L.length B.L.length,.slice (some ⟨w.heap.size+2,0,none⟩) B.L.length B.L.length,.bool X,.bool (!X),.slice (some ⟨w.heap.size+2,0,none⟩) B.L.length B.L.length,.bool (!X)].getD i ud) zE ?_ ?_)
 ·intro f a1 i aV hs ab p hi W l;rw[E.size]at hs;have s6:a1.tmps[6]?.getD ud=.pointer (some ⟨w.heap.size+3,0,none⟩):=by rw[ab 6 zE];exact r6
  match i,hi with
  |0,_=>refine fO (d:=25) _ (okA rfl) rfl g (by rw[hs];decide) (λτ d=>?_) l;simp[go_sem,s6,aT,aa]
  |1,_=>refine fO (d:=26) _ (okA rfl) rfl g (by rw[hs];decide) (λτ d=>?_) l;simp[go_sem,s6,aT,aa]
  |2,_=>
   have v1:a1.tmps[26]?.getD ud=Aj5 (some ⟨w.heap.size+2,0,none⟩) B.L.length B.L.length:=p 1 zE (W 1 zE);refine Zm (.bool X) rfl rfl rfl ai (fn:=f146) rfl rfl g (by simp[aU,aj]) (λτ=>?_) (l _ (dU a1 _ (by rw[hs];decide)));have e:#[Operand.tmp 26,.func 147].map a1.eval=#[.slice (some ⟨w.heap.size+2,0,none⟩) B.L.length B.L.length,.func (.func 147) #[] #[]]:=by simp[Act.eval,v1]
   rw[e,<-hX];exact(c146 (w.heap.size+2) B.L.length o len A hl.2 _ λk g=>by rw[aT];exact U k g).mono λe w' ⟨Z,h2⟩=>⟨Z,by rw[<-h2,fB]⟩
  |3,_=>have v1:a1.tmps[27]?.getD ud=.bool X:=p 2 zE (W 2 zE);refine fO (d:=28) _ (okA rfl) rfl g (by rw[hs];decide) (λτ d=>?_) l;simp[go_sem,v1]
  |4,_=>have v1:a1.tmps[25]?.getD ud=Aj5 (some ⟨w.heap.size+2,0,none⟩) B.L.length B.L.length:=p 0 zE (W 0 zE);refine fO (d:=4) _ (okA rfl) rfl g (by rw[hs];decide) (λτ d=>?_) l;simp[go_sem,v1]
  |5,_=>have v1:a1.tmps[28]?.getD ud=.bool (!X):=p 3 zE (W 3 zE);refine fO (d:=5) _ (okA rfl) rfl g (by rw[hs];decide) (λτ d=>?_) l;simp[go_sem,v1]
 intro a1 hs ab p;have v4:a1.tmps[4]?.getD ud=Aj5 (some ⟨w.heap.size+2,0,none⟩) B.L.length B.L.length:=p 4 zE;have v5:a1.tmps[5]?.getD ud=.bool (!X):=p 5 zE;refine NP (fn:=f96) (t:=4) (t2:=5) rfl rfl ?_;rw[getD_eq,getD_eq];refine⟨w.heap.size+2,vs,zP,?_,ay,aH,λk g=>?_,λb K=>?_,by have:=E.sz;omega,?_,?_⟩
 ·rw[<-aA];rw[v4,v5]
 ·obtain⟨v,Z,h2⟩:=ax k g;refine⟨v,Z,?_⟩
  rcases h2 with h2|⟨h3,o,A,c,h4,h5,h6⟩
  ·exact .inl h2
  exact .inr ⟨h3,o,A,c,h4,zP,h6⟩
 ·rw[E.keep b zP zP];exact H b K
 ·rw[E.os,ad.1,ac.1,av.1]
 rw[E.output,ad.2,ac.2,av.2]
end
end
end Go.Proofs.Y
namespace Go.Proofs.Y
open Go.Tp
set_option maxRecDepth 100000
def Oj:List Nat:=[17,20,22,23,25,27,28,30,31,32,33,35,36,37,38,40,41,42,43,44,45,47,50,52,53,54,55,56,57,58,59,60,61,62,63,64,65,66,67,68,70,71,72,73,74,75,76,77,78,79,80,82,83,84,85,86,87,88,89,90,91,92,93,94,95,97,98,99,100,101,102,103,104,105,106,107,108,109,110,111,112,113,114,115,116,117,118,119,120,121,122,123,124,125,126,127,128,129,130,131,132,133,134,135,136,137,138,139,140,144,146,147,148,149,150,151,152,153,154,155,156,157,158,159,160,161,162,163,164,165,166,167,181,182,188,189,190,191,192,193,194,195,196,197,198,199,200,201,202,203,204,209,210,211,212,214,215,216,217,218,219,220,237,238,239,240,241,242,243,244,245,246,247,248,249,253]
def BZ(f:fI):Bool:=Oj.contains f
def Gm(g:Nat):Bool:=g==0
def Ol:List Nat:=[90,93,113,114,130,135,137,140,144,152,163,164,181,182,209,210,211,212]
def Gn(f:fI):Bool:=Ol.contains f
def aaj:(Oj.all λf=>match tP.funcs[f]? with
 |some fn=>match fn.body with
  |some b=> !(fn.name== "runtime.NumGoroutine")&&fE tP BZ Gm b&&(tP.inits.idxOf? f).isNone
  |none=>false
 |none=>false)=true:=xD
def aak:FC tP BZ Gm:=by
 refine⟨λf i=>?_⟩;have h:=aaj;rw[Ah8]at h;have c:=h f (by simpa[BZ]using i)
 cases e:tP.funcs[f]? with
 |none=>rw[e]at c;cases c
 |some fn=>
  rw[e]at c;dsimp only at c
  cases g:fn.body with
  |none=>rw[g]at c;cases c
  |some b=>rw[g]at c;simp only[Aal,Aec]at c;exact⟨fn,b,rfl,g,c.1.1,c.1.2,Akh.1 c.2⟩
def aal:(Ol.all λf=>match tP.funcs[f]? with
 |some fn=>match fn.body with
  |some b=> !(fn.name== "runtime.NumGoroutine")&&fE tP Gn (λ_=>false) b&&(tP.inits.idxOf? f).isNone
  |none=>false
 |none=>false)=true:=xD
def aam:FC tP Gn (λ_=>false):=by
 refine⟨λf i=>?_⟩;have h:=aal;rw[Ah8]at h;have c:=h f (by simpa[Gn]using i)
 cases e:tP.funcs[f]? with
 |none=>rw[e]at c;cases c
 |some fn=>
  rw[e]at c;dsimp only at c
  cases g:fn.body with
  |none=>rw[g]at c;cases c
  |some b=>rw[g]at c;simp only[Aal,Aec]at c;exact⟨fn,b,rfl,g,c.1.1,c.1.2,Akh.1 c.2⟩
end Go.Proofs.Y
namespace Go.Tp
section
variable {P:Program}
def Om(v:vL):aj P (Akf v):=by
 unfold Akf;refine aK (zx P) λp=>?_
 split
 ·exact fA _ _
 ·refine aK (I7 P _) λ_=>?_;exact aK (I5 P _) λ_=>fA _ _
 exact iR P _ _
def aan(i:Aku):aj P (Akg i):=by
 unfold Akg
 (repeat' first
  |exact fA _ _
  |exact IsCalm.out
  |(refine aK ?_ (λ_=>?_))
  |split)
def aao(args:Array vL):aj P (Extern.RuntimeError.boundsError args):=by
 obtain⟨l⟩:=args
 rcases l with _|⟨a,_|⟨b,l⟩⟩<;>try exact iR P _ _
 cases a<;>try exact iR P _ _
 rename_i c;obtain⟨c⟩:=c
 rcases c with _|⟨c1,_|⟨g,_|⟨i,_|⟨p,_|⟨q,c⟩⟩⟩⟩⟩<;>try exact iR P _ _
 ·cases c1<;>try exact iR P _ _
  cases g<;>try exact iR P _ _
  cases i<;>try exact iR P _ _
  cases p<;>try exact iR P _ _
  rename_i s x t y f v e
  show aj P (match (if (f&&decide (x<0))=true then Akb else Akd)[e.toNat]? with|some fmt=>Aki _|none=>stuck "boundsError: no such code")
  cases(if (f&&decide (x<0))=true then Akb else Akd)[e.toNat]? with
  |some fmt=>exact fA _ _
  |none=>exact iR P _ _
def aap(args:Array vL):aj P (Akc args):=by
 haveI:∀v,IsCalm P (Akf v):=λv=>⟨Om v⟩
 haveI:∀i,IsCalm P (Akg i):=λi=>⟨aan i⟩
 unfold Akc Aki
 (repeat' first
  |exact fA _ _
  |exact IsCalm.out
  |(refine aK ?_ (λ_=>?_))
  |(refine mF (λ_=>?_) (λ_=>?_))
  |split
  |dsimp only)
def aaq(args:Array vL):aj P (Extern.RuntimeError.unhashableTypeError args):=by
 obtain⟨l⟩:=args
 rcases l with _|⟨a,_|⟨b,l⟩⟩<;>try exact iR P _ _
 cases a<;>try exact iR P _ _
 rename_i c;obtain⟨c⟩:=c
 rcases c with _|⟨c1,_|⟨e,c⟩⟩<;>try exact iR P _ _
 refine aK (Om c1) λr=>?_
 cases r with
 |none=>exact Ja P _
 |some t=>exact fA _ _
def aar{n:String}{e:Array vL->Sem vL}(h:(n,e)∈Akj)(args:Array vL):aj P (e args):=by
 simp only[Akj,Ab3,Aav,or_false,Prod.mk.injEq]at h
 rcases h with⟨_,rfl⟩|⟨_,rfl⟩|⟨_,rfl⟩|⟨_,rfl⟩|⟨_,rfl⟩|⟨_,rfl⟩|⟨_,rfl⟩|⟨_,rfl⟩|⟨_,rfl⟩|⟨_,rfl⟩|⟨_,rfl⟩|⟨_,rfl⟩|⟨_,rfl⟩|⟨_,rfl⟩|⟨_,rfl⟩
 ·exact aK (zA P _) λ_=>fA _ _
 ·exact aK (zA P _) λ_=>fA _ _
 ·exact aK (Dt P _) λ_=>aK (zA P _) λ_=>fA _ _
 ·exact aK (Dt P _) λ_=>aK (Dq P _) λ_=>fA _ _
 ·exact aao args
 ·exact aap args
 ·exact fA _ _
 ·exact aaq args
 all_goals exact fA _ _
def Oo(P:Program)(fn:Func):Prop:=(fn.name== "runtime.NumGoroutine")=false/\(fn.body.isSome=true\/(Akq fn=none/\(Akt fn=none\/∃e,Akt fn=some e/\∀c,aj P (e c))))
def aas{I:fI->Prop}(h:∀(f:fI) (g:Func),jE P I f->P.funcs[f]? =some g->Oo P g):xk P I:=by
 intro f s c
 show Calm P lJ (callFunc f c)
 unfold callFunc
 show Calm P lJ (match P.funcs[f]? with
  |none=>_
  |some g=>_)
 cases q:P.funcs[f]? with
 |none=>exact iR P _ _
 |some g=>
  obtain⟨l,h2⟩:=h f g s q;dsimp only;rw[l];simp only[kF,if_false]
  rcases h2 with h2|⟨h2,i⟩
  ·have:g.body.isNone=false:=by cases p:g.body<;>simp_all
   rw[this];simp only[kF,if_false];exact trivial
  cases p:g.body with
  |some b=>exact trivial
  |none=>
   simp only[Option.isNone_none,if_true,h2];refine aK (Qs P f) λ_=>?_
   rcases i with i|⟨e,i,h4⟩
   ·rw[i];dsimp only
    split<;>exact trivial
   rw[i];exact xu (h4 c)
def o9{α:Type}(P:Program)(A:α->Prop)(s:Sem α):Prop:=∀w e a w1 c,s.runT P w e=(.ok a w1,c)->A a
def wG{α β:Type}{A:α->Prop}{B:β->Prop}{s:Sem α}{f:α->Sem β}(h:o9 P A s)(l:∀a,A a->o9 P B (f a)):o9 P B (s >>=f):=by
 intro w g b w1 i c;rw[runT_bind]at c
 cases e:s.runT P w g with
 |mk r es2=>
  rw[e]at c
  cases r with
  |ok a w2=>exact l a (h _ _ _ _ _ e) _ _ _ _ _ c
  |halt x w2=>cases c
def Cb{α:Type}(s:Sem α):o9 P (λ_=>True) s:=λ_ _ _ _ _ _=>trivial
def aat{α:Type}{A:α->Prop}{a:α}(h:A a):o9 P A (pure a):=λ_ _ _ _ _ c=>by cases c;exact h
def Gp{α:Type}{A:α->Prop}(x:Halt):o9 P A (.halt x:Sem α):=λ_ _ _ _ _ c=>by cases c
def aau(t:TypeId):o9 P (λi=>P.info? t=some i) (typeInfo t):=by
 intro w e a w1 f c;have:(typeInfo t).runT P w e=(match P.info? t with|some i=>(pure i:Sem Aku)|none=>stuck "no such type").runT P w e:=rfl;rw[this]at c
 cases h:P.info? t with
 |none=>rw[h]at c;cases c
 |some i=>rw[h]at c;cases c;rfl
def wH(P:Program)(s:String)(f:fI):Prop:=∃t i m b,P.info? t=some i/\m∈i.methods/\m.func=some (f,b)/\m.name=s
theorem Oq:∀(n:Nat) (t:TypeId) (v:vL) (s:String),o9 P (λr=>wH P s r.1) (method n t v s)
 |0,_,_,_=>Gp _
 |n+1,t,v,s=>by
  unfold method;refine wG (aau t) λi p=>?_
  cases e:i.methods.find? (λx=>x.name==s)with
  |none=>exact Gp _
  |some m=>
   dsimp only;refine wG (Cb _) λr _=>?_;obtain⟨D,x⟩:=r;dsimp only
   cases l:m.func with
   |none=>
    refine wG (Cb _) λy _=>?_
    cases y with
    |iface t' v'=>exact Oq n t' v' s
    |nilIface=>exact λw g a w1 c A=>absurd A (jf (P:=P) .nilDeref w g a w1 c)
    |_=>exact Gp _
   |some q=>obtain⟨f,b⟩:=q;exact wG (Cb _) λ_ _=>aat ⟨t,i,m,b,p,Array.mem_of_find?_eq_some e,l,by have:=Ako e;simpa using this⟩
def aav{c:TypeId->Option Aku}{e:Array Field}{i:Aku}(h:Made.reckonStruct c e=some i):i.methods=#[]:=by
 unfold Made.reckonStruct at h;simp only[bind,Akk]at h;obtain⟨_,_,h⟩:=h
 (repeat' split at h)<;>first
  |(simp only[pure,oI]at h;subst h;rfl)
  |(simp only[Akk,pure,oI]at h;obtain⟨_,_,h⟩:=h;subst h;rfl)
def aaw{c:TypeId->Option Aku}{d:TypeDesc}{i:Aku}(h:Made.reckon c d=some i):i.methods=#[]:=by
 unfold Made.reckon at h
 cases d<;>first
  |(cases h;done)
  |exact aav h
  |(simp only[bind,Akk,pure,oI]at h
    obtain⟨_,_,h⟩:=h
    (repeat' split at h)<;>first
     |(cases h;done)
     |(subst h;rfl)
     |(obtain⟨_,_,h⟩:=h;subst h;rfl)
     |(simp only[Akk]at h;obtain⟨_,_,h⟩:=h;first|(subst h;rfl)|(simp only[oI]at h;subst h;rfl)))
  |(simp only[bind,Akk,pure,oI]at h
    obtain⟨_,_,_,_,_,_,_,_,h⟩:=h;subst h;rfl)
def aax(T:Tables):∀(n:Nat) (t:TypeId) (i:Aku),Made.infoAt T n t=some i->i∈T.types\/i.methods=#[]
 |0,_,_,h=>by cases h
 |n+1,t,i,h=>by
  unfold Made.infoAt at h
  split at h
  ·exact .inl (Af3 h)
  simp only[Akk]at h;obtain⟨_,_,h⟩:=h;exact .inr (aaw h)
def Ot(T:Tables){t:TypeId}{i:Aku}(h:T.info? t=some i):i∈T.types\/i.methods=#[]:=by
 unfold Tables.info? at h
 split at h
 ·exact .inl (Af3 h)
 exact aax T _ _ _ h
def aay{v:vL}{t:TypeId}{f:vL}{c:String}(h:panicText P false v=.call t f c):c= "Error" \/c= "String" :=by
 cases v with
 |iface t0 v0=>
  unfold panicText at h;dsimp only at h
  cases g:P.info? t0 with
  |none=>rw[g]at h;cases h
  |some info=>
   rw[g]at h;dsimp only at h
   split at h
   ·rename_i m _ e
    cases h
    try simp only[kF,if_false]at e
    have:=Ako e;simp only[Aal,beq_iff_eq]at this;exact .inl this.1
   ·rename_i m _ e
    cases h
    try simp only[kF,if_false]at e
    have:=Ako e;simp only[Aal,beq_iff_eq]at this;exact .inr this.1
   ·(repeat' split at h)<;>cases h
 |_=>cases h
def aaz(h:∀f,(wH P "Error" f\/wH P "String" f)->∃s,P.funcs[f]? =some s/\s.body=none/\(Akq s).isNone=true):∀l,NoEnter P l:=by
 intro l x _ t c g y w f i G v;have q:=aay y;have A:o9 P (λn=>∀f a,n≠.enter f a) (invoke (.fn (.method g) #[]) #[.iface t c]):=by
  show o9 P _ (callMethod (.iface t c) g (#[.iface t c].extract 1 1))
  unfold callMethod;refine wG (Cb (P:=P) program) λp _=>?_;refine wG (Oq _ t c g) λr v=>?_;obtain⟨s,E,h2,F⟩:=h r.1 (q.elim (λe=>.inl (by rw[<-e];exact v)) λe=>.inr (by rw[<-e];exact v));intro w H a w1 D hx f b e;subst e;have:=callFunc_not_enter E h2 F (#[r.2]++(#[Value.iface t c].extract 1 1)) w f b w1;rw[Sem.runT_eq]at hx;exact this (Prod.mk.inj hx).1
 exact A w #[] (.enter f i) G _ (Prod.ext v rfl) f i rfl
end
end Go.Tp
namespace Go.Proofs.Y
open Go.Tp
set_option maxRecDepth 100000
def bare:List Nat:=[221,222,223,224,225,226,227,228,229,230,231,232,233,234,235,236]
def aaA:tP.funcs.size=254:=xD
def aaB:((List.range 254).all λf=>match tP.funcs[f]? with
 |some fn=> !(fn.name== "runtime.NumGoroutine")
 |none=>true)=true:=xD
def aaC:(bare.all λf=>match tP.funcs[f]? with
 |some fn=>(Akq fn).isNone
 |none=>false)=true:=xD
def aaD:([233].all λf=>match tP.funcs[f]? with
 |some fn=>(Akt fn).isNone
 |none=>false)=true:=xD
def aaE:Akt f221=Extern.RuntimeError.rows.lookup "(runtime.boundsError).Error" :=xD
def aaF:Akt f222=Extern.RuntimeError.rows.lookup "(runtime.boundsError).RuntimeError" :=xD
def aaG:Akt f223=Extern.RuntimeError.rows.lookup "(runtime.errorString).Error" :=xD
def aaH:Akt f224=Extern.RuntimeError.rows.lookup "(runtime.errorString).RuntimeError" :=xD
def aaI:Akt f225=Extern.RuntimeError.rows.lookup "(runtime.plainError).Error" :=xD
def aaJ:Akt f226=Extern.RuntimeError.rows.lookup "(runtime.plainError).RuntimeError" :=xD
def aaK:Akt f227=Extern.RuntimeError.rows.lookup "(runtime.errorAddressString).Error" :=xD
def aaL:Akt f228=Extern.RuntimeError.rows.lookup "(runtime.errorAddressString).RuntimeError" :=xD
def aaM:Akt f229=Extern.RuntimeError.rows.lookup "(*runtime.TypeAssertionError).Error" :=xD
def aaN:Akt f230=Extern.RuntimeError.rows.lookup "(*runtime.TypeAssertionError).RuntimeError" :=xD
def aaO:Akt f231=Extern.RuntimeError.rows.lookup "(*runtime.PanicNilError).Error" :=xD
def aaP:Akt f232=Extern.RuntimeError.rows.lookup "(*runtime.PanicNilError).RuntimeError" :=xD
def aaQ:Akt f234=Extern.RuntimeError.rows.lookup "(internal/runtime/maps.unhashableTypeError).Error" :=xD
def aaR:Akt f235=Extern.RuntimeError.rows.lookup "(internal/runtime/maps.unhashableTypeError).RuntimeError" :=xD
def aaS:Akt f236=some (λc=>do pure (strVal (Extern.Rtype.kindName (<-asInt (c.getD 0 (.tuple #[]))).toNat))):=xD
theorem Ou{α:Type}{n:String}{e:α}:∀{l:List (String×α)},l.lookup n=some e->∃c,(c,e)∈l
 |[],h=>by cases h
 |(m,x)::l,h=>by
  rw[List.lookup_cons]at h
  split at h
  ·cases h;exact⟨m,List.mem_cons_self ..⟩
  obtain⟨c,hn⟩:=Ou h;exact⟨c,List.mem_cons_of_mem _ hn⟩
def jV{fn:Func}{n:String}(h:Akt fn=Extern.RuntimeError.rows.lookup n):Akt fn=none\/∃e,Akt fn=some e/\∀c,aj tP (e c):=by
 rw[h]
 cases f:Extern.RuntimeError.rows.lookup n with
 |none=>exact .inl rfl
 |some e=>obtain⟨i,g⟩:=Ou f;exact .inr ⟨e,rfl,λc=>aar g c⟩
def aaT:Akt f236=none\/∃e,Akt f236=some e/\∀c,aj tP (e c):=
 .inr ⟨_,aaS,λ_=>aK (Dq tP _) λ_=>fA _ _⟩
def aaU(f:Nat)(l:f∈bare)(fn:Func)(h:tP.funcs[f]? =some fn):Akt fn=none\/∃e,Akt fn=some e/\∀i,aj tP (e i):=by
 have c:∀g,tP.funcs[f]? =some g->fn=g:=λg p=>Option.some.inj (h.symm.trans p);have hn:=aaD;rw[Ah8]at hn;have s:f∈[233]->Akt fn=none:=λq=>by have:=hn f q;rw[h]at this;exact Akh.1 this
 simp only[bare,Ab3,Aav,or_false]at l
 rcases l with rfl|rfl|rfl|rfl|rfl|rfl|rfl|rfl|rfl|rfl|rfl|rfl|rfl|rfl|rfl|rfl
 ·rw[c _ func221];exact jV aaE
 ·rw[c _ func222];exact jV aaF
 ·rw[c _ func223];exact jV aaG
 ·rw[c _ func224];exact jV aaH
 ·rw[c _ func225];exact jV aaI
 ·rw[c _ func226];exact jV aaJ
 ·rw[c _ func227];exact jV aaK
 ·rw[c _ func228];exact jV aaL
 ·rw[c _ func229];exact jV aaM
 ·rw[c _ func230];exact jV aaN
 ·rw[c _ func231];exact jV aaO
 ·rw[c _ func232];exact jV aaP
 ·exact .inl (s yW)
 ·rw[c _ func234];exact jV aaQ
 ·rw[c _ func235];exact jV aaR
 rw[c _ func236];exact aaT
def yN(f:fI):Prop:=f∈bare
def aaV(f:fI)(fn:Func)(c:jE tP yN f)(h:tP.funcs[f]? =some fn):Oo tP fn:=by
 have hlt:f<254:=by rw[<-aaA];exact(aS.1 h).1
 have g:=aaB;rw[Ah8]at g;have h2:=g f (Aid.2 hlt);rw[h]at h2;simp only[Aec]at h2;refine⟨h2,?_⟩
 rcases c with⟨l,e,p⟩|c
 ·rw[h]at e;cases e;exact .inl p
 have i:=aaC;rw[Ah8]at i;have h4:=i f c;rw[h]at h4;exact .inr ⟨Akh.1 h4,aaU f c fn h⟩
def aaW:(tP.types.toList.all λi=>i.methods.toList.all λm=>match m.func with
 |none=>true
 |some (f,_)=>bare.contains f||match tP.funcs[f]? with
  |some fn=>fn.body.isSome
  |none=>false)=true:=xD
def aaX(f:fI)(h:vg tP f):jE tP yN f:=by
 obtain⟨t,i,m,b,g,h2,l⟩:=h
 rcases Ot tP.toTables g with e|e
 ·have h4:=aaW;rw[Ah8]at h4;have h5:=h4 i (by simpa using e);rw[Ah8]at h5;have h6:=h5 m (by simpa using h2);rw[l]at h6;simp only[Bool.or_eq_true]at h6
  rcases h6 with h6|h6
  ·exact .inr (by simpa[yN]using h6)
  cases c:tP.funcs[f]? with
  |none=>rw[c]at h6;cases h6
  |some fn=>rw[c]at h6;exact .inl ⟨fn,c,h6⟩
 rw[e]at h2;simp at h2
def aaY:(tP.types.toList.all λi=>i.methods.toList.all λm=>match m.func with
 |none=>true
 |some (f,_)=> !(m.name== "Error" ||m.name== "String")||match tP.funcs[f]? with
  |some fn=>fn.body.isNone&&(Akq fn).isNone
  |none=>false)=true:=xD
def aaZ(f:Nat)(h:wH tP "Error" f\/wH tP "String" f):∃c,tP.funcs[f]? =some c/\c.body=none/\(Akq c).isNone=true:=by
 have e:∀s,(s== "Error" ||s== "String")=true->wH tP s f->∃c,tP.funcs[f]? =some c/\c.body=none/\(Akq c).isNone=true:=by
  rintro s v ⟨t,i,m,b,p,h2,q,rfl⟩
  rcases Ot tP.toTables p with g|g
  ·have h4:=aaY;rw[Ah8]at h4;have h5:=h4 i (by simpa using g);rw[Ah8]at h5;have h6:=h5 m (by simpa using h2);rw[q]at h6;simp only[v,Bool.not_true,Bool.false_or]at h6
   cases l:tP.funcs[f]? with
   |none=>rw[l]at h6;cases h6
   |some c=>rw[l]at h6;simp only[Aal]at h6;exact⟨c,rfl,Akh.1 h6.1,h6.2⟩
  rw[g]at h2;simp at h2
 rcases h with h|h<;>exact e _ rfl h
def aa0:(tP.funcs.toList.all λe=>match e.body with
 |none=>true
 |some c=>codeOk true c)=true:=xD
def aa1:(tP.funcs.toList.all λe=>match e.body with
 |none=>true
 |some c=>(readies c).isEmpty)=true:=xD
def ahead:tP.follows .staticDataAhead=true:=xD
def good:Go.Tp.Good tP yN where
 funcs:=aas aaV
 methods:=aaX
 bodies:=λf e c p hc=>by have h:=aa0;rw[Ah8]at h;have:=h e (by simpa using Af3 p);rw[hc]at this;exact this
 ahead:=ahead
 noStep:=λg=>by
  unfold Program.stepOf;rw[Array.findIdx?_eq_none_iff];intro e i;have h:=aa1;rw[Ah8]at h;have:=h e (by simpa using i)
  cases l:e.body with
  |none=>rfl
  |some c=>
   rw[l]at this;simp only[Option.map_some,Option.any_some];have:readies c=[]:=by simpa using this
   rw[this];rfl
 noEnter:=aaz aaZ
end Go.Proofs.Y
namespace Go.Proofs.Y
open Go.RowKit Go.Tp Go.Meter Go.Conc Go.ConcN Go.Conc.Lib Go.ConcR.Gen Go.ConcN.Gen
noncomputable instance meterTeam:Team tP:=⟨yN,BZ,Gm,good,aak⟩
def aa2{w:wD}{V:BkV}{B:Bk}{qa:Option aD}{pl pc:Nat}{ps:List Int}{ks:List Nat}(c:aI w V B)(hn:aF w qa ps)(hza:aJ w V.za)(f:aJ w V.la)(e:aJ w V.ca)(g:aJ w V.pa)(i:aJ w qa)(q:0<B.L.length/\B.L.length<2147483647)(p:tP.globals.size<=w.heap.size)(l:BP B ps ks pl):bT tP 96 #[V.val B,.slice qa pl pc] w (Oi w B ks):=
 aai good aam rfl c hn hza f e g i rfl rfl q p l
end Go.Proofs.Y
namespace Go.Proofs.Y
open Go.RowKit Go.Tp Go.Meter Go.Conc Go.ConcN
variable {w u w1:wD} {B:Bk} {τ:Nat->Question->Nat} {d n0 C:Nat} {V:BkV} {ks:List Nat} {al:Int}
theorem aF.tp{a:Option aD}{l:List Int}:aF (w.tp τ d noJ) a l↔aF w a l:=⟨λh=>h.map λ_ _ _ _ h=>by rwa [aT]at h,λh=>h.map λ_ _ _ _ h=>by rwa [aT]⟩
theorem aJ.tp{a:Option aD}:aJ (w.tp τ d noJ) a↔aJ w a:=by rw[iV];exact Iff.rfl
structure GBk (w:wD) (V:BkV) (B:Bk):Prop where
 bk:dO w V B
 var:dP w
 za:aJ w V.za
 la:aJ w V.la
 ca:aJ w V.ca
 pa:aJ w V.pa
 big:tP.globals.size<=w.heap.size
theorem GBk.kp(h:GBk w V B)(k:Kp w u):GBk u V B:=⟨h.bk.kp k,h.var.kp k,h.za.kp k,h.la.kp k,h.ca.kp k,h.pa.kp k,Agd h.big k.size⟩
theorem GBk.tp(h:GBk w V B):GBk (w.tp τ d noJ) V B:=h.kp (Kp.tp_r.2 (.refl _))
def _root_.Go.Meter.Bk.can(B:Bk)(ks:List Nat):Bool:=decide (∀k:Nat,k<B.L.length->B.hist (k:Int) ks≠[])
def aA(B:Bk)(there:Bool)(own:Int):Int:=if ¬aV B=0 then aV B else if there=false then 6 else if ¬own=0 then own else if B.can B.all=false then 10 else 0
abbrev yP:vL:=.agg #[.int qi 0,.int qi 0,.int qi 0,.slice none 0 0,.slice none 0 0,.slice none 0 0,.slice none 0 0,.map none,.slice none 0 0]
def gI(n0:Nat)(w:wD)(B:Bk)(ks:List Nat)(C:Nat):Prop:=n0<=C/\∃c,w.heap[C]? =some (.cells c 138 (0,0))/\c.size=B.L.length/\∀k:Nat,k<B.L.length->∃v,c[k]? =some v/\eu w (λb=>n0<=b) (B.hist (k:Int) ks) v
def gI.kp(h:gI n0 w B ks C)(k:Kp w u):gI n0 u B ks C:=by obtain⟨f,p,h2,g,h4⟩:=h;exact⟨f,p,k.obj h2,g,λj l=>let ⟨v,c,e⟩:=h4 j l;⟨v,c,e.keep λb _ i=>k.block b i⟩⟩
theorem gI.tp:gI n0 (w.tp τ d noJ) B ks C↔gI n0 w B ks C:=by rw[iV];exact Iff.rfl
def gI.less{g:Nat}(h:gI g w B ks C)(hn:n0<=g):gI n0 w B ks C:=by
 obtain⟨l,A,h2,p,h4⟩:=h;refine⟨Agd hn l,A,h2,p,λj q=>let ⟨v,i,f⟩:=h4 j q;⟨v,i,?_⟩⟩
 rcases f with f|⟨s,ob,e,c,t,x,y⟩
 ·exact .inl f
 exact .inr ⟨s,ob,e,c,t,Agd hn x,y⟩
def Ov{qa:Option aD}{pc:Nat}(c:GBk w V B)(l:B.Fine)(f:∀i∈ks,i<B.P.length)(e:ks.length<=1000)(hn:aF w qa (ks.map λi:Nat=>(i:Int)))(y:aJ w qa):
 bT tP 96 #[V.val B,.slice qa ks.length pc] w λv g=>Kp w g/\∃C,v=.tuple #[.slice (some ⟨C,0,none⟩) B.L.length B.L.length,.bool (B.can ks)]/\gI w.heap.size g B ks C:=by
 have D:=l.nl;refine(aa2 c.bk.at_ hn c.za c.la c.ca c.pa y zP c.big (ZX l f e)).mono λv g h=>?_;obtain⟨C,A,p,h2,q,h4,h5,h6,s,t,x⟩:=h;exact⟨⟨h6,s,t,x⟩,C,h2,p,A,q,h4,h5⟩
def bQ(n0:Nat)(V:BkV)(B:Bk)(al:Int)(x:vL)(w:wD):Prop:=(¬al=0->x=yP)/\(al=0->aV B=0/\B.can B.all=true/\∃m C,x=nM V B m C/\Opened w V B n0 m C)
theorem bQ.kp{x:vL}(h:bQ n0 V B al x w)(k:Kp w u):bQ n0 V B al x u:=⟨h.1,λe=>let ⟨a,b,m,C,c,f⟩:=h.2 e;⟨a,b,m,C,c,f.kp k⟩⟩
theorem bQ.tp{x:vL}:bQ n0 V B al x (w.tp τ d noJ)↔bQ n0 V B al x w:=⟨λh=>⟨h.1,λe=>let ⟨a,b,m,C,c,f⟩:=h.2 e;⟨a,b,m,C,c,Opened.tp.1 f⟩⟩,λh=>⟨h.1,λe=>let ⟨a,b,m,C,c,f⟩:=h.2 e;⟨a,b,m,C,c,Opened.tp.2 f⟩⟩⟩
def kQ(c:wD)(V:BkV)(B:Bk)(al:Int)(v:vL)(w:wD):Prop:=Kp c w/\∃x,v=.tuple #[x,.int qi al]/\bQ c.heap.size V B al x w
theorem kQ.tp{f:wD}{v:vL}:kQ f V B al v (w.tp τ d noJ)↔kQ f V B al v w:=⟨λh=>⟨Kp.tp_r.1 h.1,let ⟨x,c,e⟩:=h.2;⟨x,c,bQ.tp.1 e⟩⟩,λh=>⟨Kp.tp_r.2 h.1,let ⟨x,c,e⟩:=h.2;⟨x,c,bQ.tp.2 e⟩⟩⟩
structure OB (w w1:wD) (V:BkV) (B:Bk) (b3 b6:Nat):Prop where
 kp:Kp w w1
 cells:Cells w1 (aB b3 V B)
 res:w1.heap[b6]? =some (.cells #[.int qi 0,.int qi 0,.int qi 0,.slice none 0 0,.slice none 0 0,.slice none 0 0,.slice none 0 0,.map none,.slice none 0 0] 118 (0,0))
 lo:w.heap.size<=b6
theorem OB.tp{c e:Nat}:OB w (w1.tp τ d noJ) V B c e↔OB w w1 V B c e:=
 ⟨λh=>⟨Kp.tp_r.1 h.kp,gX.1 h.cells,by have:=h.res;rwa [aP]at this,h.lo⟩,λh=>⟨Kp.tp_r.2 h.kp,gX.2 h.cells,by rw[aP];exact h.res,h.lo⟩⟩
def OB.kpr{f:wD}{c e:Nat}(h:OB w w1 V B c e)(k:Kp w1 f):OB w f V B c e:=⟨h.kp.trans k,k.cells h.cells,k.obj h.res,h.lo⟩
section
variable {w:wD} {V:BkV} {B:Bk} {there:Bool} {own:Int}
def opL(there:Bool)(own:Int)(c e:Nat):List (Nat×vL):=[(3,.pointer (some ⟨c,0,none⟩)),(6,.pointer (some ⟨e,0,none⟩)),(1,.bool there),(2,.int qi own)]
def SA(w:wD)(V:BkV)(B:Bk)(there:Bool)(own:Int)(a:Act)(w1:wD):Prop:=∃c e,Sl a 43 (opL there own c e)/\OB w w1 V B c e
theorem SA.tp{a:Act}(h:SA w V B there own a (w1.tp τ d noJ)):SA w V B there own a w1:=let ⟨c,e,f,h2⟩:=h;⟨c,e,f,OB.tp.1 h2⟩
end
end Go.Proofs.Y
