/- Part of a proof; no conditions. -/
import Derived.Test.YtokgkggocgpcfaaGreatDoorCheap08
import Derived.Deep.AppendLies
open Array renaming getElem?_eq_some_iff->aS,getElem?_setIfInBounds_ne->Ad2,getElem?_modify->Hy,getElem?_map->Aea,getElem_mem->Ah5,mem_append->Aak,replicate->Afc,getElem?_eq_getElem->aG
open Go.World renaming block_lt_of_cell?->wBk,putObj_heap_other->Ajm,putObj_heap_same->Ajn,cell?_of_block->Ah0,alloc_heap_new->Ajo,grownBy_alloc->Ajq,putObj_size->Aju,size_alloc->Ai2,setCell->Abn,frozen?->Aem,cell?->Aeq
open Option renaming map_eq_some_iff->Ht,getD_some->Agx
open List renaming mem_cons_of_mem->Rf,flatMap_append->Ajr,length_append->Ajs,filter_append->Ajt,mem_cons_self->Aah,append_assoc->Ajv,flatMap_cons->Ajw,flatMap_nil->Ajy,not_mem_nil->Aav,length_cons->Ah9,append_nil->Ajz,mem_append->Aa7,mem_cons->Ab3
open Nat renaming le_refl->nR,mul_le_mul_right->Ajp,eq_zero_or_pos->Af6,le_trans->Agd,lt_of_lt_of_le->nL
open Go.RowKit.Below renaming heap_setCell->Aix,heap_alloc->Ai3,refl->Aj6
open Go.Builtin renaming zeroCells->Ajx
open Go.Obj.cells renaming injEq->Aj0
open Go renaming Addr->aD,Calls->cF,Frame->fR,FuncId->fI,Value->vL,World->wD,heap_alloc_new->Aj1,callsIn_wide->Aj3,goexitEntry->Aj4,callFunc->Aj7,grownCap->Aj8,Program->Aj9,stepG->Aka,Oper->Ajd,undef->ud
open Go.Value renaming ownBlock->Aj2,slice->Aj5
open Go.Region renaming wanted->Ag2
open Go.Instr renaming loadAt->Ab9
open Go.RowKit renaming Below->bX
open Go.IntKind renaming i64->qi
open Go.Ending renaming returned->rT
open Go.Lib renaming hid->lH
open Go.Proofs.Tryz renaming prog->tP
open Option.some renaming injEq->oI
open Go.Proofs.Tryz
set_option maxRecDepth 100000
set_option maxHeartbeats 4000000
noncomputable section
set_option linter.all false
namespace Go.Proofs.Y
open Go.RowKit Go.Tp Go.Meter Go.Maps
variable {a:Act} {v:vL} {B:Bk} {w:wD} {n:Nat}
structure MLp (Rd O2:Nat->Prop) (J:List Past->(Nat->Prop)->wD->Prop) (W2:wD) (pb i:Nat) (p:Past) (q:List Past) (wr:wD):Prop where
 own:∃O',(∀b,O2 b->O' b)/\(∀b,O' b->b<wr.heap.size)/\J q O' wr
 size:W2.heap.size<=wr.heap.size
 keep:∀b,b<W2.heap.size->O2 b\/Rd b->b≠pb->wr.heap[b]? =W2.heap[b]?
 box:∃s,iI wr pb (p.set i s)
theorem MLp.store{l N:Nat}{Rd e:Nat->Prop}{J:List Past->(Nat->Prop)->wD->Prop}(R:yE B l N Rd J){g wr:wD}{pb i:Nat}{p:Past}{q:List Past}(f:e pb)(h:MLp Rd e J g pb i p q wr)(A:i<3)(s:Sp):MLp Rd e J g pb i p q (((wr.setCell ⟨pb,1+i*3,none⟩ (.bool s.made)).setCell ⟨pb,1+i*3+1,none⟩ (.int qi s.ans)).setCell ⟨pb,1+i*3+2,none⟩ (.int qi s.clr))/\iI (((wr.setCell ⟨pb,1+i*3,none⟩ (.bool s.made)).setCell ⟨pb,1+i*3+1,none⟩ (.int qi s.ans)).setCell ⟨pb,1+i*3+2,none⟩ (.int qi s.clr)) pb (p.set i s):=by obtain⟨⟨r,d,D,E⟩,h2,t,⟨F,h4⟩⟩:=h;have c:=h4.store A s;rw[set_set]at c;refine⟨⟨⟨r,d,λb c=>by simpa using D b c,R.write _ _ _ _ _ _ (R.write _ _ _ _ _ _ (R.write _ _ _ _ _ _ E (d _ f)) (d _ f)) (d _ f)⟩,by simpa using h2,λb x y z=>?_,s,c⟩,c⟩;rw[<-t b x y z];simp[Abn,Hy,Ne.symm z]
theorem c210(B:Bk)(hF:B.Fine)(l N:Nat)(Rd:Nat->Prop)(J:List Past->(Nat->Prop)->wD->Prop)(R:yE B l N Rd J)(k bb yb lb mb:Nat)(cl:Option aD)(cc:Nat):
 ∀(n i:Nat) (O:Nat->Prop) (q:List Past) (p:Past) (W:wD),i+n=B.C.length->p.Ok B->(q++moreL (k:Int) (B.C.drop i) i p).length<=N->J q O W->(∀b,Rd b->b<W.heap.size)->(∀b,O b->b<W.heap.size)->uD B Rd O l k bb yb lb mb cl cc W->
 cF tP 210 #[bZ p,.int qi (i:Int),.pointer (some ⟨bb,0,none⟩),.pointer (some ⟨yb,0,none⟩),.pointer (some ⟨lb,0,none⟩),.pointer (some ⟨mb,0,none⟩)] W (F6 Rd J (q++moreL (k:Int) (B.C.drop i) i p) O W):=by
 intro n
 induction n with
 |zero=>
  intro i O q p W hi hp hN hj _ ad E;have e:i=B.C.length:=zP
  subst e;rw[List.drop_length]at hN⊢;exact Zt B l N Rd O J R k bb yb lb mb cl cc q p hp (by rw[show moreL (k:Int) [] B.C.length p=[p]from rfl,Ajs,List.length_singleton]at hN;omega) W hj ad E
 |succ n ih=>
  intro i O q p W hi hp hN hj aE ad E;have ar:i<B.C.length:=zP
  have bh:=hF.nc;have hz:B.C[i]? =some B.C[i]:=List.getElem?_eq_getElem ar;have aN:=hF.call i _ hz;obtain⟨cb,co,ba,bf,aH⟩:=E.C i _ hz;subst ba;have hd:B.C.drop i=B.C[i]::B.C.drop (i+1):=List.drop_eq_getElem_cons ar;rw[hd]at hN⊢;generalize B.C[i]=z at*;obtain⟨f,M,a0,a1,c0,c1,g⟩:=z;simp only[Cells,and_true]at aH;obtain⟨y0,y1,y2,y3,y4,y5,y6⟩:=aH;have a9:=wBk W _ y0;simp only at a9;have e5:=E.c5;have ek:=E.ck;have em:=E.cm;have a4:=wBk W _ e5;have au:=wBk W _ ek;have aw:=wBk W _ em;simp only at a4 au aw;have aJ:¬((i:Int)=(B.C.length:Int)):=zP
  obtain⟨y,T⟩:∃y,y=(W.alloc (.cells (dQ p) 132)).alloc (.cells #[.int qi f,.int qi M,.int qi a0,.int qi a1,.int qi c0,.int qi c1,.int qi g] 62):=⟨_,rfl⟩;have F:∀b,b<W.heap.size->y.heap[b]? =W.heap[b]? :=λb hb=>by rw[T,Ai3 _ _ _ xL,Ai3 _ _ _ hb]
  have Y:y.heap.size=W.heap.size+2:=by rw[T];simp
  obtain⟨Z,Q⟩:∃Z:Nat->Prop,Z=λb=>(O b\/b=W.heap.size)\/b=W.heap.size+1:=⟨_,rfl⟩;have az:J q Z y:=by have h1:=R.alloc _ _ _ (.cells #[.int qi f,.int qi M,.int qi a0,.int qi a1,.int qi c0,.int qi c1,.int qi g] 62) (R.alloc _ _ _ (.cells (dQ p) 132) hj);rw[Ai2]at h1;rw[Q,T];exact h1
  have aa:∀b,O b->Z b:=λb h=>by rw[Q];exact .inl (.inl h)
  have ag:∀b,Z b->b<y.heap.size:=λb h=>by
   rw[Q]at h;rw[Y]
   rcases h with(h|h)|h
   ·have:=ad b h;omega
   ·omega
   omega
  have aA:MLp Rd Z J y W.heap.size i p q y:=by refine⟨⟨Z,λ_ h=>h,ag,az⟩,nR _,λ_ _ _ _=>rfl,p.c i,?_⟩;unfold iI;rw[Zw,T,Ai3 _ _ _ yW];exact(MapKept.heap_alloc W _).1
  have X:∀j,y.cell? ⟨W.heap.size+1,j,none⟩=(#[Value.int qi f,.int qi M,.int qi a0,.int qi a1,.int qi c0,.int qi c1,.int qi g]:Array vL)[j]? :=λj=>by have:=(MapKept.heap_alloc (W.alloc (.cells (dQ p) 132)) (.cells #[.int qi f,.int qi M,.int qi a0,.int qi a1,.int qi c0,.int qi c1,.int qi g] 62)).1;rw[Ai2]at this;rw[T];simp only[Aeq,this];rfl
  have ai:∀q' u,MLp Rd Z J y W.heap.size i p q' u->Cells u [(⟨W.heap.size+1,0,none⟩,.int qi f),(⟨W.heap.size+1,2,none⟩,.int qi a0),(⟨W.heap.size+1,3,none⟩,.int qi a1),(⟨W.heap.size+1,4,none⟩,.int qi c0),(⟨W.heap.size+1,5,none⟩,.int qi c1),(⟨W.heap.size+1,6,none⟩,.int qi g),(⟨lb,0,none⟩,.int qi (k:Int)),(⟨mb,0,none⟩,.func (.func 210) #[] #[.pointer (some ⟨bb,0,none⟩),.pointer (some ⟨yb,0,none⟩),.pointer (some ⟨lb,0,none⟩),.pointer (some ⟨mb,0,none⟩)])]:=λq' u h=>by
   have hc:∀j,u.cell? ⟨W.heap.size+1,j,none⟩=y.cell? ⟨W.heap.size+1,j,none⟩:=λj=>Ah0 (show u.heap[W.heap.size+1]? =y.heap[W.heap.size+1]? from h.keep _ zP (.inl (by rw[Q];exact .inr rfl)) zP);refine⟨by rw[hc,X];rfl,by rw[hc,X];rfl,by rw[hc,X];rfl,by rw[hc,X];rfl,by rw[hc,X];rfl,by rw[hc,X];rfl,dD ek λx=>?_,dD em λx=>?_,trivial⟩
   ·exact(h.keep lb (by rw[Y];omega) (.inr E.rl) (Nat.ne_of_lt au)).trans (F _ au)
   exact(h.keep mb (by rw[Y];omega) (.inl (aa _ E.om)) (Nat.ne_of_lt aw)).trans (F _ aw)
  have ac:∀q' u p',MLp Rd Z J y W.heap.size i p q' u->p'.Ok B->(q'++moreL (k:Int) (B.C.drop (i+1)) (i+1) p').length<=N->cF tP 210 #[bZ p',.int qi ((i:Int)+1),.pointer (some ⟨bb,0,none⟩),.pointer (some ⟨yb,0,none⟩),.pointer (some ⟨lb,0,none⟩),.pointer (some ⟨mb,0,none⟩)] u λe u'=>e=rT (.bool true)/\MLp Rd Z J y W.heap.size i p (q'++moreL (k:Int) (B.C.drop (i+1)) (i+1) p') u':=λq' u p' h bc D=>by
   obtain⟨⟨O',o1,o2,o3⟩,s1,k1,b1⟩:=id h;have aX:uD B Rd O' l k bb yb lb mb (some ⟨cb,co,none⟩) cc u:=E.keep (λb h=>o1 _ (aa _ h)) λb hb hh=>by rw[k1 b zP (hh.imp (aa _) id) zP,F b hb]
   have:=ih (i+1) O' q' p' u zP bc D o3 (λb hb=>by have:=aE b hb;omega) o2 aX;rw[show ((i+1 :Nat):Int)=(i:Int)+1 by omega]at this;refine this.mono ?_;rintro e u' ⟨rfl,aW,p1,p2,p3,p4,p5⟩;refine⟨rfl,⟨aW,λb hb=>p1 _ (o1 _ hb),p2,p3⟩,zP,λb hb hh aJ=>?_,?_⟩
   ·rw[p5 b zP (hh.imp (o1 _) id),k1 b hb hh aJ]
   obtain⟨s,hs⟩:=b1;refine⟨s,?_⟩;unfold iI at*;rw[p5 _ (aS.1 hs).1 (.inl (o1 _ (by rw[Q];exact .inl (.inr rfl))))];exact hs
  have ah:∀q' u,MLp Rd Z J y W.heap.size i p q' u->F6 Rd J q' O W (rT (.bool true)) u:=λq' u h=>by obtain⟨⟨O',o1,o2,o3⟩,s1,k1,b1⟩:=h;exact⟨rfl,O',λb hb=>o1 _ (aa _ hb),o2,o3,zP,λb hb hh=>by rw[k1 b zP (hh.imp (aa _) id) zP,F b hb]⟩
  have A:=lH ai;have K:=lH ac;have af:=lH ah;have HN:=lH hN;have aj:=lH aA;have Hp:=lH hp;have HR:=lH R;have an:=lH aN;have ab:=T;have aI:i<3:=zP
  clear hN E hj hp ih R hz hd aN hi hF ai ac ah aA X ag aa az Y F T aE ad;simp only[dQ]at ab;have am:=lH ab;clear ab;by_cases av:f=(k:Int)
  ·obtain⟨Q0,ap⟩:∃Q0,Q0=q++(if g=0 then moreL (k:Int) (B.C.drop (i+1)) (i+1) p else[]):=⟨_,rfl⟩;have hQ:=Zu (k:=(k:Int)) (z:=⟨f,M,a0,a1,c0,c1,g⟩) (cs:=B.C.drop (i+1)) (i:=i) (p:=p) av;have D:=HN.out;rw[hQ]at D⊢;simp only at D⊢;rw[<-Ajv,<-ap]at D⊢;clear hQ;obtain⟨G,hG⟩:∃G,G=yieldT (k:Int) (B.C.drop (i+1)) i p ⟨f,M,a0,a1,c0,c1,g⟩:=⟨_,rfl⟩;rw[<-hG]at D⊢;have ax:=lH D;clear D;have HG:=lH hG;have HO:=lH Q;clear Q;have r:=ap;clear hG ap;obtain⟨aY,aZ,a2,a3⟩:=an.out.ans;obtain⟨a5,a6,a7,a8⟩:=an.out.clr;simp only at aY aZ a2 a3 a5 a6 a7 a8;subst av
   rcases an.out.made with hm|hm<;>simp only at hm<;>subst hm
   simp only[if_true]at r;have aQ:=lH (show (q++moreL (k:Int) (B.C.drop (i+1)) (i+1) p).length<=N by rw[<-r];have:=ax.out;rw[Ajs]at this;omega);go_enter func210,ntmps210;rw[show (tP:Aj9)=tP from rfl]
   go_wp2_with (go_at_call 210;rw[<-am.out];refine(K.out q y p aj.out Hp.out aQ.out).mono ?_;rintro e u ⟨rfl,I⟩;have d:=A.out _ _ I;simp only[Cells,and_true]at d;obtain⟨f0,f1,f2,f3,f4,f5,f6,f7⟩:=d;have HM:=lH I;clear I)
   clear f0 f1 f2 f3 f4 f5 f6;rw[<-r]at HM
   rotate_left
   simp only[Int.one_ne_zero,if_false,Ajz]at r;go_enter func210,ntmps210;rw[show (tP:Aj9)=tP from rfl];go_wp2;rw[<-am.out];have HM:=aj;rw[<-r]at HM
   all_goals
    clear r
    try rw[show ((i:Int)==(B.C.length:Int))=false from beq_eq_false_iff_ne.2 zP]
    go_loopw [10] (λv wr=>∃t:Int,a0<=t/\t<=a1+1/\v=.int qi t/\MLp Rd Z J y W.heap.size i p (Q0++(bg a0 (t-1)).flatMap G) wr) (λv _=>(a1+1-intOf v).toNat)
    case atStart=>exact⟨a0,zP,zP,rfl,by rw[qB zP,Ajy,Ajz];exact HM.out⟩
    case round=>
     obtain⟨t,aL,bj,rfl,I⟩:=hrel;have d:=A.out _ _ I;simp only[Cells,and_true]at d;obtain⟨f0,f1,f2,f3,f4,f5,f6,f7⟩:=d;have ak:=lH I;clear I;by_cases hlt:t<=a1
     ·go_wp2
      all_goals
       clear f0 f1 f2 f3 f4 f5 f6;obtain⟨Qt,aq⟩:∃Qt,Qt=Q0++(bg a0 (t-1)).flatMap G:=⟨_,rfl⟩;rw[<-aq]at ak;have ay:=lH aq;clear aq
       go_loopw [11] (λv wr=>∃x:Int,max t c0<=x/\(x<=c1+1\/x=max t c0)/\v=.int qi x/\MLp Rd Z J y W.heap.size i p (Qt++(bg (max t c0) (x-1)).flatMap λu=>moreL (k:Int) (B.C.drop (i+1)) (i+1) (p.set i ⟨true,t,u⟩)) wr) (λv _=>(c1+1-intOf v).toNat)
       case atStart=>exact⟨_,zP,zP,rfl,by rw[qB zP,Ajy,Ajz];exact ak.out⟩
       case round=>
        obtain⟨x,aM,bk,rfl,I⟩:=hrel;have d:=A.out _ _ I;simp only[Cells,and_true]at d;obtain⟨f0,f1,f2,f3,f4,f5,f6,f7⟩:=d;obtain⟨s,hs⟩:=id I.box;obtain⟨v0,v1,v2,⟨g0,g1,g2⟩,gf⟩:=hs.at aI;have bi:=(aS.1 hs).1;have Hs:=lH hs;have al:=lH I;clear I hs;by_cases be:x<=c1
        ·obtain⟨Qx,ae⟩:∃Qx,Qx=Qt++(bg (max t c0) (x-1)).flatMap λu=>moreL (k:Int) (B.C.drop (i+1)) (i+1) (p.set i ⟨true,t,u⟩):=⟨_,rfl⟩;rw[<-ae]at al;have aT:Hid ((Qx++moreL (k:Int) (B.C.drop (i+1)) (i+1) (p.set i ⟨true,t,x⟩)).length<=N):=lH (by
          have h0:=ax.out;have h1:=F7 G (a:=a0) hlt;have h2:=F7 (λu=>moreL (k:Int) (B.C.drop (i+1)) (i+1) (p.set i ⟨true,t,u⟩)) (a:=max t c0) be;rw[rW aL,Ajr,show [t].flatMap G=(bg (max t c0) c1).flatMap λu=>moreL (k:Int) (B.C.drop (i+1)) (i+1) (p.set i ⟨true,t,u⟩)from by rw[HG.out];simp[yieldT]]at h1;rw[rW aM,Ajr]at h2;rw[ae,ay.out];simp only[Ajs,Ajw,Ajy,Ajz]at h0 h1 h2⊢;omega)
         have aU:=lH ae;clear ae
         go_upto_region 16 with fail
         have bd:=MLp.store HR.out (by rw[HO.out];exact .inl (.inr rfl)) al.out aI ⟨true,t,x⟩;clear f0 f1 f2 f3 f4 f5 f6 g0 g1 g2 gf;generalize ((wr.setCell ⟨W.heap.size,1+i*3,none⟩ (.bool true)).setCell ⟨W.heap.size,1+i*3+1,none⟩ (.int qi t)).setCell ⟨W.heap.size,1+i*3+2,none⟩ (.int qi x)=w3 at*;obtain⟨ao,aF⟩:=bd;have d:=A.out _ _ ao;simp only[Cells,and_true]at d;obtain⟨f0,f1,f2,f3,f4,f5,f6,f7⟩:=d;have aG:=aF.cells;simp only[Cells,and_true]at aG;obtain⟨r0,r1,r2,r3,r4,r5,r6,r7,r8,r9⟩:=aG;have aO:=lH ao;have aV:=lH (Past.Ok.set Hp.out ar (t:=t) (u:=x) ⟨zP,zP⟩ ⟨zP,zP⟩);clear ao aF
         go_wp2_with (go_at_call 210;refine(K.out Qx w3 (p.set i ⟨true,t,x⟩) aO.out aV.out aT.out).mono ?_;rintro e w4 ⟨rfl,aB⟩;have aP:=lH aB;clear aB)
         go_roundw
         case rel=>refine⟨x+1,zP,zP,by go_num,?_⟩;have:=aP.out;rw[aU.out,Ajv]at this;rw[show x+1-1=x by omega,rW aM,Ajr];simpa using this
         ·simp only[intOf];omega
        go_wp2;go_roundw
        case rel=>
         refine⟨t+1,zP,zP,by go_num,?_⟩;have:=al.out;have ex:bg (max t c0) (x-1)=bg (max t c0) c1:=by
          by_cases bl:max t c0<=c1
          ·rw[show x-1=c1 by omega]
          rw[qB (show c1<max t c0 by omega),qB zP]
         rw[ay.out,Ajv,ex]at this;rw[show t+1-1=t by omega,rW aL,Ajr,show [t].flatMap G=(bg (max t c0) c1).flatMap λu=>moreL (k:Int) (B.C.drop (i+1)) (i+1) (p.set i ⟨true,t,u⟩)from by rw[HG.out];simp[yieldT]];exact this
        ·simp only[intOf];omega
     go_wp2;go_ret;have et:t=a1+1:=zP
     subst et;have:=ak.out;rw[show a1+1-1=a1 by omega]at this;exact af.out _ _ this
  have HQ:=lH (Zv (k:=(k:Int)) (z:=⟨f,M,a0,a1,c0,c1,g⟩) (cs:=B.C.drop (i+1)) (i:=i) (p:=p) av);have aC:=HQ.out;rw[aC];clear aC;have aR:=lH (show (q++moreL (k:Int) (B.C.drop (i+1)) (i+1) p).length<=N by rw[<-HQ.out];exact HN.out);go_enter func210,ntmps210;rw[show (tP:Aj9)=tP from rfl]
  go_wp2_with (go_at_call 210;rw[<-am.out];refine(K.out q y p aj.out Hp.out aR.out).mono ?_;rintro e u ⟨rfl,I⟩;have d:=A.out _ _ I;simp only[Cells,and_true]at d;obtain⟨f0,f1,f2,f3,f4,f5,f6,f7⟩:=d;have HM:=lH I;clear I)
  go_ret;exact af.out _ _ HM.out
structure ILp (Rd O1:Nat->Prop) (J:List Past->(Nat->Prop)->wD->Prop) (W1:wD) (q:List Past) (wr:wD):Prop where
 own:∃O',(∀b,O1 b->O' b)/\(∀b,O' b->b<wr.heap.size)/\J q O' wr
 size:W1.heap.size<=wr.heap.size
 keep:∀b,b<W1.heap.size->O1 b\/Rd b->wr.heap[b]? =W1.heap[b]?
def Zx(B:Bk)(hF:B.Fine)(l N:Nat)(Rd O:Nat->Prop)(J:List Past->(Nat->Prop)->wD->Prop)(R:yE B l N Rd J)(k bb lb:Nat)(cl la:Option aD)(cc lc:Nat)(hk:k<B.L.length)(q:List Past)(hN:(q++B.pasts (k:Int)).length<=N)(W:wD)(hj:J q O W)(p:∀b,Rd b->b<W.heap.size)(an:∀b,O b->b<W.heap.size)(ab:Rd bb)(ac:Rd lb)(c4:W.cell? ⟨bb,4,none⟩=some (.slice la B.L.length lc))(c5:W.cell? ⟨bb,5,none⟩=some (.slice cl B.C.length cc))(ck:W.cell? ⟨lb,0,none⟩=some (.int qi (k:Int)))(f:∀(i:Nat) (z:Ln),B.L[i]? =some z->∃b o,la=some ⟨b,o,none⟩/\Rd b/\Cells W [(⟨b,o+i*4+2,none⟩,.int qi z.s0),(⟨b,o+i*4+3,none⟩,.int qi z.s1)])(d:∀(i:Nat) (z:Cl),B.C[i]? =some z->∃b o,cl=some ⟨b,o,none⟩/\Rd b/\Cells W [(⟨b,o+i*7,none⟩,.int qi z.line),(⟨b,o+i*7+1,none⟩,.int qi z.far),(⟨b,o+i*7+2,none⟩,.int qi z.a0),(⟨b,o+i*7+3,none⟩,.int qi z.a1),(⟨b,o+i*7+4,none⟩,.int qi z.c0),(⟨b,o+i*7+5,none⟩,.int qi z.c1),(⟨b,o+i*7+6,none⟩,.int qi z.made)]):
 cF tP 209 #[.func (.yield l) #[] #[],.pointer (some ⟨bb,0,none⟩),.pointer (some ⟨lb,0,none⟩)] W λe W'=>(∃v,e=rT v)/\∃O',J (q++B.pasts (k:Int)) O' W':=by
 obtain⟨x,ap,aq,y⟩:=hF.lineAt hk;obtain⟨rb,ro,rfl,ad,T⟩:=f _ _ ap;have af:B.pasts (k:Int)=(bg x.s0 x.s1).flatMap λs=>moreL (k:Int) B.C 0 ⟨s,λ_=>⟨false,0,0⟩⟩:=by unfold Bk.pasts;rw[aq]
 rw[af]at hN⊢;have aB:x.s1<=9999:=by have h1:=y.hi;have h2:=yu y.digits;omega
 have az:=y.lo;have aA:=y.ord;obtain⟨xn,xd,s0,Y⟩:=x;simp only at hN az aA aB T af⊢;obtain⟨r0,r1,-⟩:=T;have aE:=p _ ab;have aF:=p _ ac;have aG:=p _ ad;obtain⟨G,hG⟩:∃G,G=λs=>moreL (k:Int) B.C 0 ⟨s,λ_=>⟨false,0,0⟩⟩:=⟨_,rfl⟩;rw[<-hG]at hN⊢;have HN:=lH hN;have HG:=lH hG;have HF:=lH hF;have HR:=lH R;have Hj:=lH hj;have ax:=lH p;have aw:=lH an;have D:=lH d;clear hN hG hF R hj p an d f af ap aq y;go_enter func209,ntmps209;rw[show (tP:Aj9)=tP from rfl]
 go_upto_region 3 with fail
 have aa:J q (λb=>(O b\/b=W.heap.size)\/b=W.heap.size+1) ((W.alloc (.cells #[.func (.yield l) #[] #[]] 253)).alloc (.cells #[.func (.func 210) #[] #[.pointer (some ⟨bb,0,none⟩),.pointer (some ⟨W.heap.size,0,none⟩),.pointer (some ⟨lb,0,none⟩),.pointer (some ⟨W.heap.size+1,0,none⟩)]] 254)):=by have h1:=HR.out.alloc _ _ _ (.cells #[.func (.func 210) #[] #[.pointer (some ⟨bb,0,none⟩),.pointer (some ⟨W.heap.size,0,none⟩),.pointer (some ⟨lb,0,none⟩),.pointer (some ⟨W.heap.size+1,0,none⟩)]] 254) (HR.out.alloc _ _ _ (.cells #[.func (.yield l) #[] #[]] 253) Hj.out);rw[Ai2]at h1;exact h1
 have aj:bX W.heap.size W ((W.alloc (.cells #[.func (.yield l) #[] #[]] 253)).alloc (.cells #[.func (.func 210) #[] #[.pointer (some ⟨bb,0,none⟩),.pointer (some ⟨W.heap.size,0,none⟩),.pointer (some ⟨lb,0,none⟩),.pointer (some ⟨W.heap.size+1,0,none⟩)]] 254)):=((Aj6 _ _).alloc (nR _) _).alloc yW _;have ar:((W.alloc (.cells #[.func (.yield l) #[] #[]] 253)).alloc (.cells #[.func (.func 210) #[] #[.pointer (some ⟨bb,0,none⟩),.pointer (some ⟨W.heap.size,0,none⟩),.pointer (some ⟨lb,0,none⟩),.pointer (some ⟨W.heap.size+1,0,none⟩)]] 254)).cell? ⟨W.heap.size,0,none⟩=some (.func (.yield l) #[] #[]):=by go_simp
 have hm1:((W.alloc (.cells #[.func (.yield l) #[] #[]] 253)).alloc (.cells #[.func (.func 210) #[] #[.pointer (some ⟨bb,0,none⟩),.pointer (some ⟨W.heap.size,0,none⟩),.pointer (some ⟨lb,0,none⟩),.pointer (some ⟨W.heap.size+1,0,none⟩)]] 254)).cell? ⟨W.heap.size+1,0,none⟩=some (.func (.func 210) #[] #[.pointer (some ⟨bb,0,none⟩),.pointer (some ⟨W.heap.size,0,none⟩),.pointer (some ⟨lb,0,none⟩),.pointer (some ⟨W.heap.size+1,0,none⟩)]):=by go_simp
 have ag:((W.alloc (.cells #[.func (.yield l) #[] #[]] 253)).alloc (.cells #[.func (.func 210) #[] #[.pointer (some ⟨bb,0,none⟩),.pointer (some ⟨W.heap.size,0,none⟩),.pointer (some ⟨lb,0,none⟩),.pointer (some ⟨W.heap.size+1,0,none⟩)]] 254)).heap.size=W.heap.size+2:=yW
 generalize (W.alloc (.cells #[.func (.yield l) #[] #[]] 253)).alloc (.cells #[.func (.func 210) #[] #[.pointer (some ⟨bb,0,none⟩),.pointer (some ⟨W.heap.size,0,none⟩),.pointer (some ⟨lb,0,none⟩),.pointer (some ⟨W.heap.size+1,0,none⟩)]] 254)=E at*;have c:∀b,b<W.heap.size->E.heap[b]? =W.heap[b]? :=λb F=>aj.block b F;obtain⟨A,g⟩:∃A:Nat->Prop,A=λb=>(O b\/b=W.heap.size)\/b=W.heap.size+1:=⟨_,rfl⟩;rw[<-g]at aa;have M:∀b,A b->b<E.heap.size:=λb h=>by
  rw[g]at h;rw[ag]
  rcases h with(h|h)|h
  ·have:=aw.out b h;omega
  ·omega
  omega
 have al:ILp Rd A J E q E:=⟨⟨A,λ_ h=>h,M,aa⟩,nR _,λ_ _ _=>rfl⟩;have ak:uD B Rd A l k bb W.heap.size lb (W.heap.size+1) cl cc E:=by refine⟨ab,ac,by rw[g];exact .inl (.inr rfl),by rw[g];exact .inr rfl,dD c5 λh=>c _ h,ar,dD ck λh=>c _ h,hm1,λi z hz=>?_⟩;obtain⟨b,o,e1,e2,e3⟩:=D.out i z hz;exact⟨b,o,e1,e2,e3.keep (b:=b) (λh=>c _ h) yW⟩
 have Q:∀X u,ILp Rd A J E X u->Cells u [(⟨bb,4,none⟩,.slice (some ⟨rb,ro,none⟩) B.L.length lc),(⟨lb,0,none⟩,.int qi (k:Int)),(⟨rb,ro+k*4+2,none⟩,.int qi s0),(⟨rb,ro+k*4+3,none⟩,.int qi Y),(⟨W.heap.size+1,0,none⟩,.func (.func 210) #[] #[.pointer (some ⟨bb,0,none⟩),.pointer (some ⟨W.heap.size,0,none⟩),.pointer (some ⟨lb,0,none⟩),.pointer (some ⟨W.heap.size+1,0,none⟩)])]:=λX u h=>by have I:∀b,b<W.heap.size->Rd b->u.heap[b]? =W.heap[b]? :=λb F hr=>(h.keep b zP (.inr hr)).trans (c b F);exact⟨dD c4 λx=>I _ x ab,dD ck λx=>I _ x ac,dD r0 λx=>I _ x ad,dD r1 λx=>I _ x ad,dD hm1 λx=>h.keep _ x (.inl (by rw[g];exact .inr rfl)),trivial⟩
 have r:∀X u (t:Int),ILp Rd A J E X u->0<=t/\t<=9999->(X++G t).length<=N->cF tP 210 #[bZ ⟨t,λ_=>⟨false,0,0⟩⟩,.int qi 0,.pointer (some ⟨bb,0,none⟩),.pointer (some ⟨W.heap.size,0,none⟩),.pointer (some ⟨lb,0,none⟩),.pointer (some ⟨W.heap.size+1,0,none⟩)] u λe u'=>e=rT (.bool true)/\ILp Rd A J E (X++G t) u':=λX u t h ht hn=>by
  obtain⟨⟨O',o1,o2,o3⟩,Y,k1⟩:=id h;have:=c210 B HF.out l N Rd J HR.out k bb W.heap.size lb (W.heap.size+1) cl cc B.C.length 0 O' X ⟨t,λ_=>⟨false,0,0⟩⟩ u zP ⟨ht,λi _=>⟨λh=>(by cases h),λ_=>⟨rfl,rfl⟩⟩⟩ (by rw[HG.out]at hn;exact hn) o3 (λb F=>by have:=ax.out b F;omega) o2 (ak.keep o1 k1);refine this.mono ?_;rintro e u' ⟨rfl,ay,p1,p2,p3,p4,p5⟩;refine⟨rfl,⟨ay,λb F=>p1 _ (o1 _ F),p2,?_⟩,zP,λb F hh=>?_⟩
  ·rw[HG.out];exact p3
  rw[p5 b zP (hh.imp (o1 _) id),k1 b F hh]
 have K:=lH Q;have Z:=lH r;have ah:=lH al;have aC:=lH ag;have ae:=K.out _ _ ah.out;obtain⟨f0,f1,f2,f3,f4,-⟩:=ae;clear Q r al aa aj ar hm1 ag c M ak g;go_wp2
 go_loopw [5] (λv wr=>∃t:Int,s0<=t/\t<=Y+1/\v=.int qi t/\ILp Rd A J E (q++(bg s0 (t-1)).flatMap G) wr) (λv _=>(Y+1-intOf v).toNat)
 case atStart=>exact⟨s0,zP,zP,rfl,by rw[qB zP,Ajy,Ajz];exact ah.out⟩
 case round=>
  clear f0 f1 f2 f3 f4;obtain⟨t,ao,aH,rfl,hM⟩:=hrel;have ae:=K.out _ _ hM;obtain⟨f0,f1,f2,f3,f4,-⟩:=ae;have ai:=lH hM;clear hM;by_cases hlt:t<=Y
  ·have av:Hid (((q++(bg s0 (t-1)).flatMap G)++G t).length<=N):=lH (by
    have h0:=HN.out;have h1:=F7 G (a:=s0) hlt;rw[rW ao,Ajr]at h1;simp only[Ajs,Ajw,Ajy,Ajz]at h0 h1⊢;omega)
   go_wp2_with (go_at_call 210;refine(Z.out _ wr t ai.out ⟨zP,zP⟩ av.out).mono ?_;rintro e w4 ⟨rfl,am⟩;have au:=lH am;clear am)
   go_roundw
   case rel=>refine⟨t+1,zP,zP,by go_num,?_⟩;have:=au.out;rw[Ajv]at this;rw[show t+1-1=t by omega,rW ao,Ajr];simpa using this
   ·simp only[intOf];omega
  go_wp2;refine bodyPost_end (results_none rfl _ _ _) rfl ?_;have et:t=Y+1:=zP
  subst et;obtain⟨O',_,_,h3⟩:=ai.out.own;rw[show Y+1-1=Y by omega]at h3;exact⟨⟨_,rfl⟩,O',h3⟩
def F9(n:Nat)(Rd:Nat->Prop)(I:List Past->(Nat->Prop)->wD->Prop)(q:List Past)(O:Nat->Prop)(U:wD):Exit->Act->wD->Prop
 |.normal,_,U'=>(∀b,n<=b->b<n+2->U'.heap[b]? =U.heap[b]?)/\I q O U'/\U.heap.size<=U'.heap.size/\∀b,b<U.heap.size->O b\/Rd b->U'.heap[b]? =U.heap[b]?
 |_,_,_=>False
def Zy{g:Operand}{ps:Array Tmp}{assign body:Code}{Q:Exit->Act->wD->Prop}(B:Bk)(N:Nat)(Rd:Nat->Prop)(am:∀b,Rd b->b<w.heap.size)(xs:List Past){gf:Nat}{lb:Array vL}(hg:a.eval g=.func (.func gf) #[] lb)(eg:∀args w,(Aj7 gf args).run tP w=.ok (.enter gf args) w)(ax:ps.size=1)(I:List Past->(Nat->Prop)->wD->Prop)(ai:∀q O O' W,I q O W->(∀b,O' b->O b)->I q O' W)(F:∀q O W o,I q O W->I q O (W.putObj (w.heap.size+1) (.loop o)))(aa:∀q O W o,I q O W->I q (λb=>O b\/b=W.heap.size) (W.alloc o))(aj:∀q O W b j v,I q O W->O b->I q O (W.setCell ⟨b,j,none⟩ v))(ag:∀i,bX w.heap.size w i->i.heap.size=w.heap.size+2->I [] (λ_=>False) i)(X:∀(J:List Past->(Nat->Prop)->wD->Prop),yE B (w.heap.size+1) N Rd J->∀W,W.heap.size=w.heap.size+2->bX w.heap.size w W->J [] (λ_=>False) W->cF tP gf (#[.func (.yield (w.heap.size+1)) #[] #[]]++lb) W λe W'=>(∃v,e=rT v)/\∃O',J xs O' W')(D:Past->Nat->Act)(s:∀(l:Nat) (x:Past) (W:wD) (K:Act->wD->Prop),K (D x W.heap.size) (W.alloc (.cells (dQ x) 132))->
 assign.wpIn (Fence.wide.inRound l) 0 tP (Exit.then K (λ_ _ _=>False)) {tmps:=(ps.zip #[bZ x]).foldl (λt (p,v)=>t.setIfInBounds p v) a.tmps,defers:=[]} W)(M:∀(l:Nat) (q:List Past) (x:Past) (O:Nat->Prop) (bx:Nat) (U:wD),I q O U->q.length<N->x.Ok B->iI U bx x->w.heap.size+2<=bx->body.wpIn (Fence.wide.inRound l) 0 tP (F9 w.heap.size Rd I (q++[x]) O U) (D x bx) U)(R:∀O W,I xs O W->W.heap[w.heap.size]? =some (.deferred (some []))->Q .normal {a with defers:={target:=.collected w.heap.size,args:=#[]}::a.defers} W):
 (Code.rangeFunc g ps assign body).wpIn Fence.wide n tP Q a w:=by
 refine wpIn_rangeFunc ?_;intro fn ao;obtain⟨d,c⟩:∃d:LoopState->Option Code->Loop,d=λst pe=>{state:=st,pending:=pe,fn,tmps:=a.tmps,params:=ps,assign,body,defers:=w.heap.size}:=⟨_,rfl⟩;obtain⟨i,r⟩:∃i,(w.alloc (.deferred (some []))).alloc (.loop (d .ready none))=i:=⟨_,rfl⟩;have al:i.heap[w.heap.size+1]? =some (.loop (d .ready none)):=by rw[<-r];have:=Ajo (w.alloc (.deferred (some []))) (.loop (d .ready none));rwa [Ai2]at this
 have ak:i.heap[w.heap.size]? =some (.deferred (some [])):=by rw[<-r];exact(Ai3 _ _ _ yW).trans (Ajo w _)
 have ab:bX w.heap.size w i:=by rw[<-r];exact((Aj6 _ w).alloc (nR _) _).alloc yW _
 have af:i.heap.size=w.heap.size+2:=by rw[<-r];simp
 have ah:=ag i ab af;refine⟨w.heap.size+1,[{target:=.collected w.heap.size,args:=#[]}],i,{target:=.fn (.func gf) lb,args:=#[.func (.yield (w.heap.size+1)) #[] #[]]},i,gf,
  #[.func (.yield (w.heap.size+1)) #[] #[]]++lb,i,?_,?_,?_,?_,(λh=>by cases h),?_⟩
 ·rw[<-r,c];exact run_enterLoop_outer _ _ _ _ _
 ·simp only[resolve,hg];simp[go_sem]
 ·intro f' _;trivial
 ·simp[invoke,go_sem,eg]
 refine Aj3.2 ((X (λq O W=>I q O W/\W.heap[w.heap.size+1]? =some (.loop (d .ready none))/\W.heap[w.heap.size]? =some (.deferred (some []))/\∀b,O b->w.heap.size+2<=b) ⟨?_,?_,?_⟩ i af ab ⟨ah,al,ak,λ_ h=>h.elim⟩).mono ?_)
 ·rintro q O W o ⟨T,y,Y,E⟩;have h1:=(aS.1 y).1;refine⟨aa _ _ _ _ T,by rw[Ai3 _ _ _ h1];exact y,by rw[Ai3 _ _ _ zP];exact Y,λb A=>?_⟩
  rcases A with A|A
  ·exact E b A
  omega
 ·rintro q O W b j v ⟨T,y,Y,E⟩ A;have:=E b A;exact⟨aj _ _ _ _ _ _ T A,by rw[Aix _ _ _ _ xL];exact y,by rw[Aix _ _ _ _ xL];exact Y,E⟩
 ·rintro q x O W ⟨T,y,Y,E⟩ ay hx;have hlt:w.heap.size+1<W.heap.size:=(aS.1 y).1;have hy:=run_yield (P:=tP) (args:=#[bZ x]) y (by rw[c];exact ax.symm);rw[c]at hy;refine⟨fn,_,assign,body,hy,roundIn_of_wpIn ao (s _ x W _ ?_)⟩;have G:bX W.heap.size W (W.alloc (.cells (dQ x) 132)):=(Aj6 _ _).alloc (nR _) _;have aq:=ai _ _ O _ (aa _ _ _ (.cells (dQ x) 132) T) (λb h=>.inl h);have aB:iI (W.alloc (.cells (dQ x) 132)) W.heap.size x:=Ajo W _;have aw:(W.alloc (.cells (dQ x) 132)).heap[w.heap.size+1]? =some (.loop (d .ready none)):=by rw[G.block _ hlt];exact y
  have au:(W.alloc (.cells (dQ x) 132)).heap[w.heap.size]? =some (.deferred (some [])):=by rw[G.block _ zP];exact Y
  have aC:(W.alloc (.cells (dQ x) 132)).heap.size=W.heap.size+1:=yW
  generalize W.alloc (.cells (dQ x) 132)=WA at*;refine⟨_,run_beginRound aw (by rw[c]),?_⟩;have av:(WA.putObj (w.heap.size+1) (.loop {d .ready none with state:=.busy})).heap[w.heap.size+1]? =some (.loop {d .ready none with state:=.busy}):=Ajn zP;have ar:(WA.putObj (w.heap.size+1) (.loop {d .ready none with state:=.busy})).heap[w.heap.size]? =some (.deferred (some [])):=(Ajm zP).trans au;have aA:iI (WA.putObj (w.heap.size+1) (.loop {d .ready none with state:=.busy})) W.heap.size x:=(Ajm zP).trans aB;refine wpIn_mono (M (w.heap.size+1) q x O W.heap.size _ (F _ _ _ _ aq) ay hx aA zP) ?_;rintro e a3 W3 hp
  cases e with
  |normal=>
   obtain⟨ac,ap,az,ad⟩:=hp;have Z:=(ac _ zP zP).trans av;have an:=(ac _ zP zP).trans ar;have f:=run_endRound (P:=tP) none Z;rw[c]at f Z;simp only[Aju]at az ad;refine⟨_,_,f,rfl,⟨F _ _ _ _ ap,?_,(Ajm zP).trans an,E⟩,?_,λb A hh=>?_⟩
   ·rw[Ajn (aS.1 Z).1,c];rfl
   ·rw[Aju];omega
   have ae:b≠w.heap.size+1:=by
    rcases hh with h|h
    ·have:=E b h;omega
    have:=am b h;omega
   rw[Ajm ae,ad b zP hh,Ajm ae,G.block _ A]
  |_=>exact hp.elim
 rintro e W2 ⟨⟨v,rfl⟩,O',T,y,Y,E⟩;have f:=run_endLoop (P:=tP) y (by rw[c];simp);rw[c]at f;exact⟨none,_,f,R O' _ (F _ _ _ _ T) ((Ajm zP).trans Y)⟩
abbrev nJ:vL:=.agg #[.int qi 0,.bool false,.int qi 0,.int qi 0,.bool false,.int qi 0,.int qi 0,.bool false,.int qi 0,.int qi 0]
def Zz:(tP.info? 132).map (λi=>(i.zero,i.size,i.bytes))=some (some nJ,10,80):=xD
def yF(p:Past):bC p=(dQ p).toList:=rfl
def NW(p:Past):∀x∈bC p,Imm x:=λx hx=>by
 rw[yF]at hx;simp only[dQ,Ab3,Aav,or_false]at hx
 rcases hx with rfl|rfl|rfl|rfl|rfl|rfl|rfl|rfl|rfl|rfl<;>first|exact .int _|exact .bool _
def ZA(l:List Past):(gQ l).length=l.length*10:=by
 induction l with
 |nil=>rfl
 |cons p l ih=>have:gQ (p::l)=bC p++gQ l:=rfl;rw[this,Ajs,ih,yF];simp[dQ];omega
def NY(l:List Past)(p:Past):gQ (l++[p])=gQ l++bC p:=by simp[gQ,Ajr]
def jr(w:wD)(base:Nat)(l:List Past)(v:vL):Prop:=
 w.ownsRow base 132 10 v l.length (gQ l)/\(∀x∈gQ l,Imm x)/\(∀g c t f,v.ownBlock=some g->w.heap[g]? =some (.cells c t f)->∀x∈c,Imm x)/\(l=[]->v=.slice none 0 0)
def jr.nil(w:wD)(base:Nat):jr w base [] (.slice none 0 0):=⟨World.ownsRow_nil _ _ _ _,by simp[gQ],λg c t f h=>by simp[Aj2]at h,λ_=>rfl⟩
def jr.kept{w':wD}{base:Nat}{l:List Past}(h:jr w base l v)(r:∀g,v.ownBlock=some g->w'.heap[g]? =w.heap[g]?):jr w' base l v:=by
 obtain⟨p,h2,s,h4⟩:=h;refine⟨⟨p.1,?_⟩,h2,λg c t f d hc=>s g c t f d (by rw[<-r g d];exact hc),h4⟩
 rcases p.2 with hn|⟨g,e,i,rfl,x,d,y⟩
 ·exact .inl hn
 exact .inr ⟨g,e,i,rfl,x,by rw[r g rfl];exact d,y⟩
def jr.hist{base:Nat}{l:List Past}(h:jr w base l v):eu w (λb=>base<=b) l v:=by
 obtain⟨t,h2,y,h4⟩:=h;by_cases e:l=[]
 ·exact .inl ⟨e,h4 e⟩
 refine .inr ⟨e,?_⟩
 rcases t.2 with⟨_,hn⟩|⟨g,f,c,rfl,A,s,r,_,p,D⟩
 ·exact absurd (List.eq_nil_of_length_eq_zero hn) e
 refine⟨g,f,c,rfl,A,s,p,r,λi x d=>?_,y g c _ _ rfl s⟩;have hlt:=(List.getElem?_eq_some_iff.1 d).1;rw[<-D]at d;rw[List.getElem?_take]at d;rw[ZA]at hlt;rw[if_pos hlt]at d;simpa using d
def ZB{z:Array vL}{x:vL}(h:x∈Ajx z n):x∈z:=by
 unfold Ajx at h;obtain⟨i,d,rfl⟩:=Array.mem_map.1 h;have hlt:=Array.mem_range.1 d;have f:0<z.size:=Nat.pos_of_ne_zero λe=>by simp[e]at hlt
 have c:=Nat.mod_lt i f;rw[getElem!_pos z _ c];exact Ah5 c
def ZC:∀x∈nJ.cells,Imm x:=λx hx=>by exact NW ⟨0,λ_=>⟨false,0,0⟩⟩ x (by rw[yF];exact Array.mem_toList_iff.2 hx)
def ZE(w:wD)(ty:TypeId)(base:Nat)(l:List Past)(v:vL)(h:jr w base l v)(a:aD)(c:Nat)(p:Past)(d:∀j u,(bC p)[j]? =some u->w.cell? (a.add j)=some u)(hN:l.length<=3000)(M:base<=w.heap.size):
 ∃g D w',(Builtin.append_ #[138,138] ty #[v,.slice (some a) 1 c]).run tP w=.ok (.slice (some ⟨g,0,none⟩) (l.length+1) D) w'/\jr w' base (l++[p]) (.slice (some ⟨g,0,none⟩) (l.length+1) D)/\w.grownBy w' v.ownBlock/\((Aj5 (some ⟨g,0,none⟩) (l.length+1) D).ownBlock=v.ownBlock\/(Aj5 (some ⟨g,0,none⟩) (l.length+1) D).ownBlock=some w.heap.size):=by
 obtain⟨i,hi,Q,E,R⟩:∃i,tP.info? 132=some i/\i.zero=some nJ/\i.size=10/\i.bytes=80:=by
  have:=Zz
  cases e:tP.info? 132 with
  |none=>rw[e]at this;cases this
  |some i=>rw[e]at this;simp only[Option.map_some,oI,Prod.mk.injEq]at this;exact⟨i,rfl,this.1,this.2.1,this.2.2⟩
 obtain⟨h1,h2,h3,h4⟩:=h;have y:(bC p).length=1*10:=by rw[yF];simp[dQ]
 have s:=NW p;have K:∀u∈bC p,u.oneCell'=true:=λu hu=>by
  have:=s u hu
  cases this<;>rfl
 obtain⟨g,D,w',I,r2,r3,T,r5⟩:=run_append_lies (P:=tP) w 138 ty base 132 i nJ 10 80 underlying138 hi Q E R (by rfl) zE v l.length (gQ l) h1 a 1 c (bC p) y d K zE (by simp only[maxLen];omega) zP M _ rfl;refine⟨g,D,w',I,⟨?_,?_,?_,λe=>by simp at e⟩,r3,?_⟩
 ·rw[NY,Ajs];exact r2
 ·rw[NY];intro x hx
  rcases Aa7.1 hx with hx|hx
  ·exact h2 x hx
  exact s x hx
 ·intro J cc t f Y hc x hx;simp only[Aj2,oI]at Y;subst Y;have Z:∀n,∀x∈Ajx nJ.cells n,Imm x:=λn x hx=>ZC x (ZB hx)
  rcases h1.2 with⟨rfl,ae⟩|⟨J,r,F,rfl,ac,hg,af,ad,aa,ab⟩
  ·have A:=run_append_nil (P:=tP) w 138 ty 132 i nJ underlying138 hi Q a 1 c (bC p) (by rw[E];exact y) d zP zP (by rw[R];omega);rw[A]at I;simp only[Result.ok.injEq,Value.slice.injEq,oI,Addr.mk.injEq]at I;obtain⟨⟨⟨rfl,_⟩,_⟩,rfl⟩:=I;have:(w.drew.alloc (.cells ((bC p).toArray++Ajx nJ.cells (Aj8 w 1 0 132-1)) 132)).heap[w.heap.size]? =_:=Aj1 w.drew (.cells ((bC p).toArray++Ajx nJ.cells (Aj8 w 1 0 132-1)) 132);rw[this]at hc;simp only[oI,Aj0]at hc;obtain⟨rfl,_⟩:=hc
   rcases Aak.1 hx with hx|hx
   ·exact s x (by simpa using hx)
   exact Z _ x hx
  by_cases G:l.length+1<=r
  ·have X:l.length*i.size+(bC p).length<=F.size:=by rw[E,y,aa,<-Nat.add_mul];exact Ajp _ G
   have A:=run_append_room (P:=tP) w 138 ty 132 i underlying138 hi J l.length r F hg a 1 c (bC p) (by rw[E];exact y) d K G X;rw[A]at I;simp only[Result.ok.injEq,Value.slice.injEq,oI,Addr.mk.injEq]at I;obtain⟨⟨⟨rfl,_⟩,_⟩,rfl⟩:=I;rw[setRow_heap w J F _ 132 _ hg]at hc;simp only[oI,Aj0]at hc;obtain⟨rfl,_⟩:=hc;simp only[List.mem_toArray,Aa7]at hx
   rcases hx with(hx|hx)|hx
   ·exact h3 J F _ _ rfl hg x (by simpa using List.mem_of_mem_take hx)
   ·exact s x hx
   exact h3 J F _ _ rfl hg x (by simpa using List.mem_of_mem_drop hx)
  have N:∀j u,(gQ l)[j]? =some u->w.cell? ((⟨J,0,none⟩:aD).add j)=some u:=h1.cells (g:=J) rfl;have A:=run_append_grow (P:=tP) w 138 ty 132 i nJ underlying138 hi Q ⟨J,0,none⟩ l.length r (gQ l) (by rw[E];exact h1.1) N a 1 c (bC p) (by rw[E];exact y) d zP zP (growslice_fits zP (by rw[R];omega));rw[A]at I;simp only[Result.ok.injEq,Value.slice.injEq,oI,Addr.mk.injEq]at I;obtain⟨⟨⟨rfl,_⟩,_⟩,rfl⟩:=I;have:(w.drew.alloc (.cells ((gQ l).toArray++(bC p).toArray++Ajx nJ.cells (Aj8 w (l.length+1) r 132-(l.length+1))) 132)).heap[w.heap.size]? =_:=Aj1 w.drew (.cells ((gQ l).toArray++(bC p).toArray++Ajx nJ.cells (Aj8 w (l.length+1) r 132-(l.length+1))) 132);rw[this]at hc;simp only[oI,Aj0]at hc;obtain⟨rfl,_⟩:=hc
  rcases Aak.1 hx with hx|hx
  ·rcases Aak.1 hx with hx|hx
   ·exact h2 x (by simpa using hx)
   exact s x (by simpa using hx)
  exact Z _ x hx
 simp only[Aj2]at T⊢
 rcases T with T|T
 ·exact .inl T.symm
 exact .inr (by rw[T])
def ZF{F:Fence}(w:wD){ops:Array Ajd}{e:List Ajd}{o:Ajd}{Q:Exit->Act->wD->Prop}(G:o.guard=none)(s x:Operand)(f:o.op=Op.call {callee:=Callee.builtin Builtin.append,args:=#[s,x],argTypes:=#[138,138]})(base:Nat)(l:List Past)(v:vL)(I:a.eval s=v)(h:jr w base l v)(ad:aD)(c:Nat)(p:Past)(hx:a.eval x=.slice (some ad) 1 c)(hc:∀j u,(bC p)[j]? =some u->w.cell? (ad.add j)=some u)(E:l.length<=3000)(A:base<=w.heap.size)(D:∀g d r,jr r base (l++[p]) (.slice (some ⟨g,0,none⟩) (l.length+1) d)->w.grownBy r v.ownBlock->((Aj5 (some ⟨g,0,none⟩) (l.length+1) d).ownBlock=v.ownBlock\/(Aj5 (some ⟨g,0,none⟩) (l.length+1) d).ownBlock=some w.heap.size)->wpListIn F n tP ops Q e (a.put o.dst (.slice (some ⟨g,0,none⟩) (l.length+1) d)) r):
 wpListIn F n tP ops Q (o::e) a w:=by
 refine wpListIn_plain G λK t=>?_;obtain⟨g,d,r,i,J,M,N⟩:=ZE w o.type base l v h ad c p hc E A;unfold Oper.wpIn;refine⟨?_,?_⟩
 ·simp[Oper.about,f,resolve,Target.leads,Sem.run_pure]
 rw[Oper.semAt_plain F _ _ (by rw[f];intro c y;cases y)];simp[execOp,f,resolve,invoke,builtin,I,hx,i,Result.andThen];exact t _ _ (D g d r J M N)
def ZG(V:BkV)(B:Bk)(k:Nat)(w:wD):cF tP 181 #[V.val B,.int qi (k:Int)] w λe c=>e=rT (.func (.func 209) #[] #[.pointer (some ⟨w.heap.size,0,none⟩),.pointer (some ⟨w.heap.size+1,0,none⟩)])/\c=(w.alloc (.cells (V.row B) 112)).alloc (.cells #[.int qi (k:Int)] 3):=by go_enter func181,ntmps181;go_wp2;go_ret;exact⟨rfl,rfl⟩
structure HJ (B:Bk) (k:Nat) (ks:List Nat) (W:wD) (m n8:Nat) (q:List Past) (O:Nat->Prop) (U:wD):Prop where
 size:W.heap.size<=U.heap.size
 old:∀b,b<W.heap.size->b≠m->b≠n8->U.heap[b]? =W.heap[b]?
 kn:KnP U m (cnt B)
 row:∃v,U.heap[n8]? =some (.cells #[v] 138 (0,0))/\jr U (W.heap.size+2) (q.filter λp=>B.right k p ks) v/\∀g,v.ownBlock=some g->¬O g
 far:∀b,O b->W.heap.size<=b/\b<U.heap.size
section
variable {B:Bk} {k:Nat} {ks:List Nat} {W U:wD} {m n8:Nat} {q:List Past} {O:Nat->Prop}
theorem HJ.of{i:wD}(h:HJ B k ks W m n8 q O U)(E:m<W.heap.size)(D:n8<W.heap.size)(r:Nat)(hr:W.heap.size<=r)(c:U.grownBy i (some r))(f:∀v,U.heap[n8]? =some (.cells #[v] 138 (0,0))->v.ownBlock≠some r):HJ B k ks W m n8 q O i:=by obtain⟨t,h2,A,⟨v,h4,h5,h6⟩,p⟩:=h;refine⟨Agd t c.size,λb x y z=>(c.block b zP xL).trans (h2 b x y z),A.kept c xL,⟨v,(c.block n8 zP xL).trans h4,h5.kept λg d=>?_,h6⟩,λb s=>⟨(p b s).1,nL (p b s).2 c.size⟩⟩;have:=(h5.1.lt g d).2;exact c.block g this λe=>f v h4 (by rw[d,e])
def HJ.less{c:Nat->Prop}(h:HJ B k ks W m n8 q O U)(d:∀b,c b->O b):HJ B k ks W m n8 q c U:=by obtain⟨e,h2,f,⟨v,h4,h5,h6⟩,i⟩:=h;exact⟨e,h2,f,⟨v,h4,h5,λg r s=>h6 g r (d _ s)⟩,λb p=>i b (d _ p)⟩
theorem HJ.put(h:HJ B k ks W m n8 q O U)(f:m<W.heap.size)(d:n8<W.heap.size)(o:Obj):HJ B k ks W m n8 q O (U.putObj (W.heap.size+1) o):=by refine h.of f d (W.heap.size+1) zP ⟨rfl,rfl,rfl,yW,λb _ c=>Ajm (by simpa using c)⟩ λv g e=>?_;obtain⟨i,h4,h5,h6⟩:=h.row;rw[g]at h4;simp only[oI,Aj0,Array.mk.injEq,List.cons.injEq,and_true]at h4;subst h4;have:=(h5.1.lt _ e).1;omega
theorem HJ.alloc(h:HJ B k ks W m n8 q O U)(s:m<W.heap.size)(t:n8<W.heap.size)(o:Obj):HJ B k ks W m n8 q (λb=>O b\/b=U.heap.size) (U.alloc o):=by
 have _:=s;have d:=Ajq U o none;obtain⟨i,h2,p,⟨v,h4,h5,h6⟩,r⟩:=h;refine⟨Agd i d.size,λb x y z=>(d.block b zP yW).trans (h2 b x y z),p.kept d yW,⟨v,(d.block n8 zP yW).trans h4,h5.kept λg c=>d.block g (h5.1.lt g c).2 yW,λg c f=>?_⟩,λb e=>?_⟩
 ·rcases f with f|f
  ·exact h6 g c f
  have:=(h5.1.lt g c).2;omega
 rw[Ai2]
 rcases e with e|e
 ·have:=r b e;omega
 omega
def HJ.write(h:HJ B k ks W m n8 q O U)(i:m<W.heap.size)(g:n8<W.heap.size){b j:Nat}(v:vL)(f:O b):HJ B k ks W m n8 q O (U.setCell ⟨b,j,none⟩ v):=by refine h.of i g b (h.far b f).1 ⟨rfl,rfl,rfl,yW,λc _ d=>Aix _ _ _ c (by simpa using d)⟩ λv p e=>?_;obtain⟨r,h4,h5,h6⟩:=h.row;rw[p]at h4;simp only[oI,Aj0,Array.mk.injEq,List.cons.injEq,and_true]at h4;subst h4;exact h6 _ e f
def HJ.val(h:HJ B k ks W m n8 q O U)(c:U.heap[n8]? =some (.cells #[v] 138 (0,0))):jr U (W.heap.size+2) (q.filter λp=>B.right k p ks) v/\∀g,v.ownBlock=some g->¬O g:=by obtain⟨d,h4,h5⟩:=h.row;rw[c]at h4;simp only[oI,Aj0,Array.mk.injEq,List.cons.injEq,and_true]at h4;subst h4;exact h5
def HJ.skip{i:wD}(h:HJ B k ks W m n8 q O U)(G:m<W.heap.size)(E:n8<W.heap.size)(s:n8≠m)(F:W.heap.size+2<=U.heap.size)(c:U.grownBy i (some m))(A:KnP i m (cnt B)){x:Past}(hx:B.right k x ks=false):
 F9 W.heap.size (λb=>b<W.heap.size/\b≠m/\b≠n8) (HJ B k ks W m n8) (q++[x]) O U .normal a i:=by
 obtain⟨t,h2,D,⟨v,h4,h5,h6⟩,r⟩:=h;refine⟨λb x y=>c.block b zP xL,⟨Agd t c.size,λb x y z=>(c.block b zP xL).trans (h2 b x y z),A,⟨v,(c.block n8 zP (by simpa using s)).trans h4,?_,h6⟩,λb f=>⟨(r b f).1,nL (r b f).2 c.size⟩⟩,c.size,λb f e=>?_⟩
 ·rw[Ajt,show [x].filter (λp=>B.right k p ks)=[] by simp[hx],Ajz];refine h5.kept λg d=>c.block g (h5.1.lt g d).2 ?_;have:=(h5.1.lt g d).1;simp;omega
 refine c.block b f ?_
 rcases e with e|e
 ·have:=r b e;simp;omega
 simp;exact e.2.1
theorem HJ.add{A w':wD}{v':vL}{o:Obj}(h:HJ B k ks W m n8 q O U)(hm:m<W.heap.size)(Y:n8<W.heap.size)(E:n8≠m)(Z:W.heap.size+2<=U.heap.size)(G:U.grownBy A (some m))(R:KnP A m (cnt B)){x:Past}(hx:B.right k x ks=true)(M:U.heap[n8]? =some (.cells #[v] 138 (0,0)))(s:jr w' (W.heap.size+2) ((q.filter λp=>B.right k p ks)++[x]) v')(r:(A.alloc o).grownBy w' v.ownBlock)(I:v'.ownBlock=v.ownBlock\/v'.ownBlock=some (A.alloc o).heap.size):
 F9 W.heap.size (λb=>b<W.heap.size/\b≠m/\b≠n8) (HJ B k ks W m n8) (q++[x]) O U .normal a (w'.setCell ⟨n8,0,none⟩ v'):=by
 obtain⟨h5,h6⟩:=h.val M;have T:=G.size;have J:=r.size;rw[Ai2]at J;have F:∀g,v.ownBlock=some g->W.heap.size+2<=g:=λg e=>(h5.1.lt g e).1;have d:∀b,b<U.heap.size->b≠m->b≠n8->some b≠v.ownBlock->(w'.setCell ⟨n8,0,none⟩ v').heap[b]? =U.heap[b]? :=λb N h2 Q h4=>by rw[Aix _ _ _ b Q,r.block b (by rw[Ai2];omega) h4,Ai3 _ _ _ zP,G.block b N (by simpa using h2)]
 have f:∀b,b<W.heap.size+2->some b≠v.ownBlock:=λb D e=>by have:=F b e.symm;omega
 refine⟨λb x y=>d b zP zP zP (f b zP),⟨by have:=h.size;simp;omega,λb x y z=>(d b zP y z (f b zP)).trans (h.old b x y z),?_,⟨v',?_,?_,?_⟩,λb D=>?_⟩,by simp;omega,λb D t=>?_⟩
 ·have X:=(R.kept (Ajq A o none) yW).kept r (f m zP);exact X.kept (w':=w'.setCell ⟨n8,0,none⟩ v') (row:=some n8) ⟨rfl,rfl,rfl,yW,λc _ hn=>Aix _ _ _ c (by simpa using hn)⟩ (by simpa using Ne.symm E)
 ·have e:w'.heap[n8]? =some (.cells #[v] 138 (0,0)):=by
   rw[r.block n8 (by rw[Ai2];omega) (f n8 zP),Ai3 _ _ _ zP,G.block n8 zP (by simpa using E)];exact M
  simp[Abn,Hy,e]
 ·rw[Ajt,show [x].filter (λp=>B.right k p ks)=[x] by simp[hx]];refine s.kept λg i=>Aix _ _ _ g ?_;have:=(s.1.lt g i).1
  show g≠n8
  omega
 ·intro g i K
  rcases I with e|e
  ·exact h6 g (by rw[<-e];exact i) K
  rw[e,Ai2]at i;have:=(h.far g K).2;simp at i;omega
 ·have:=h.far b D;simp;omega
 rcases t with t|t
 ·have:=h.far b t;exact d b D zP zP λe=>h6 b e.symm t
 exact d b D t.2.1 t.2.2 (f b zP)
end
def cf{f:fI}{fn:Func}(h:tP.funcs[f]? =some fn)(g:fn.body.isNone=false)(hn:(fn.name== "runtime.NumGoroutine")=false)(args:Array vL)(u:wD):(Aj7 f args).run tP u=.ok (.enter f args) u:=by
 have c:fn.body≠none:=by intro e;rw[e]at g;cases g
 have d:fn.name≠ "runtime.NumGoroutine" :=by simpa using hn
 simp[Aj7,program,Sem.run,h,c,d,bind,Sem.bind,pure]
theorem BL{α β:Type}{f:α->List β}{M:Nat}:∀(l:List α),(∀x∈l,(f x).length<=M)->(l.flatMap f).length<=l.length*M
 |[],_=>by simp
 |x::l,h=>by have e:=BL l λy c=>h y (Rf _ c);have d:=h x (Aah ..);simp only[Ajw,Ajs,Ah9,Nat.add_mul,Nat.one_mul];omega
def ZH{c:Cl}(h:c.Fine B):(times c).length<=9:=by
 unfold times;have d:=h.ans;have h2:=h.clr;refine Agd (BL (M:=3) _ λt _=>?_) ?_
 ·rw[List.length_map,BA];omega
 rw[BA];omega
theorem NZ{B:Bk}(k:Int):∀(d:List Cl) (i:Nat) (p:Past),(∀c∈d,c.Fine B)->(moreL k d i p).length<=10^d.length
 |[],i,p,_=>by simp[moreL]
 |c::d,i,p,h=>by
  have e:=λi p=>NZ k d i p λy f=>h y (Rf _ f);rw[F8,Ajs,Ah9,Nat.pow_succ];have g:(if c.line≠k\/c.made=0 then moreL k d (i+1) p else[]).length<=10^d.length:=by
   split
   ·exact e _ _
   simp
  have h2:(if c.line≠k then[]else(times c).flatMap λx=>moreL k d (i+1) (p.set i ⟨true,x.1,x.2⟩)).length<=9*10^d.length:=by
   split
   ·simp
   refine Agd (BL (M:=10^d.length) _ λx _=>e _ _) (Ajp _ (ZH (h c (Aah ..))))
  omega
def N7(d:B.Fine){k:Nat}(p:k<B.L.length):(B.pasts (k:Int)).length<=3000:=by
 obtain⟨x,r,e,f⟩:=d.lineAt p;unfold Bk.pasts;rw[e];refine Agd (BL (M:=1000) _ λs _=>Agd (NZ (B:=B) _ _ _ _ λc hc=>?_) (Nat.pow_le_pow_right zE d.nc)) ?_
 ·obtain⟨i,g⟩:=List.getElem?_of_mem hc;exact d.call i c g
 rw[BA];have:=f.wide;omega
end Go.Proofs.Y
namespace Go.Proofs.Y
open Go.RowKit Go.Tp Go.Meter Go.Conc Go.ConcN Go.Conc.Lib Go.ConcR.Gen Go.ConcN.Gen
section
open Go.ConcR (KK WgAt stA smA rd wr mk Payload DC0)
def bot:fR:={(default:fR)with fn:=tP.funcs.size,defers:=[],mode:=.panicking [Aj4]}
section
variable {φ:Ph} {S:Nat->Prop} {u0:wD} {bv pv:vL} {k bb ib pb ob:Nat} {L:Array Bool} {a:Act} {H:Hold} {u:wD}
def yG{i d p x:Nat}{g:List Nat}{D:TypeId}{o:Ajd}{v:vL}{b:fR}{cs:List fR}{K:List Item}{f:Hold->Goroutine->wD->Prop}(h:KSt φ S u0 bv pv k bb ib pb ob L a H u)(y:kL[i]? =some o)(A:o.op=.load D (.tmp p))(Q:o.guard=none)(s:o.dst=some d)(N:d<12)(E:b.kind≠.early)(J:a.tmps[p]?.getD ud=.pointer (some ⟨x,0,none⟩))(hx:S x)(hr:∀u',Off ⟨λ_=>False,S⟩ u0 u'->(Ab9 D (.pointer (some ⟨x,0,none⟩))).run tP u'=.ok v u')(he:∀u',Off ⟨λ_=>False,S⟩ u0 u'->∀e∈(Ab9 D (.pointer (some ⟨x,0,none⟩))).events tP u' #[],∃j,e=⟨.cell ⟨x,j,none⟩,false,false⟩)(R:∀I,Put a I d v->aH tP false f (H,G (b.at I (.inRegion kL g::K)) cs,u)):aH tP false f (H,G (b.at a (.inRegion kL (i::g)::K)) cs,u):=by
 have r:∀u',Off H u u'->Off ⟨λ_=>False,S⟩ u0 u':=λu' y=>h.off.trans ⟨y.size,λb M t=>y.keep b M (.inr (t.elim (λx=>x.elim) λx=>by rw[h.sh];exact x)),y.same⟩;refine Ls y (by simp[Ag2,Q]) E s (by rw[h.size];exact N) v (λu' c=>?_) (λu' c e t=>?_) R
 ·unfold execOp;simp only[A,ev,J];simp[hr u' (r u' c)]
 unfold execOp at t;simp only[A,ev,J]at t;have F:e∈(Ab9 D (.pointer (some ⟨x,0,none⟩))).events tP u' #[]:=by simpa[hr u' (r u' c)]using t
 obtain⟨j,rfl⟩:=he u' (r u' c) e F;exact .read (.inr (by rw[h.sh];exact hx))
end
def N8(t:TypeId)(x:Nat)(v:vL)(u:wD)(c:∀w,(isAgg t).run tP w=.ok false w)(hc:u.cell? ⟨x,0,none⟩=some v):(Ab9 t (.pointer (some ⟨x,0,none⟩))).run tP u=.ok v u/\(Ab9 t (.pointer (some ⟨x,0,none⟩))).events tP u #[]=#[⟨.cell ⟨x,0,none⟩,false,false⟩]:=by constructor<;>simp[go_sem,c,hc]
def N9(V:BkV)(B:Bk)(x:Nat)(u:wD)(hc:∀(i:Nat) (v:vL),(V.row B)[i]? =some v->u.cell? ⟨x,i,none⟩=some v):(Ab9 112 (.pointer (some ⟨x,0,none⟩))).run tP u=.ok (V.val B) u/\∀e∈(Ab9 112 (.pointer (some ⟨x,0,none⟩))).events tP u #[],∃j,e=⟨.cell ⟨x,j,none⟩,false,false⟩:=by
 have c0:=hc 0 _ rfl;have c1:=hc 1 _ rfl;have c:=hc 2 _ rfl;have d:=hc 3 _ rfl;have f:=hc 4 _ rfl;have g:=hc 5 _ rfl;have p:=hc 6 _ rfl;constructor
 ·simp[go_sem,c0,c1,c,d,f,g,p]
 intro e r;simp[go_sem,c0,c1,c,d,f,g,p]at r
 rcases r with rfl|rfl|rfl|rfl|rfl|rfl|rfl<;>exact⟨_,rfl⟩
section
variable {φ:Ph} {S:Nat->Prop} {u0:wD} {V:BkV} {B:Bk} {k pl pc bb ib pb ob:Nat} {pa:Option aD} {l:List Past}
def wz.off{u:wD}{n C:Nat}(h:wz S u0 V B k C n pa pl pc bb ib pb ob)(d:Off ⟨λ_=>False,S⟩ u0 u):wz S u V B k C n pa pl pc bb ib pb ob:=
 ⟨λi x hx=>mX d (.inr (h.held _ yW)) (h.book i x hx),mX d (.inr (h.held _ yW)) h.ix,mX d (.inr (h.held _ yW)) h.ph,mX d (.inr (h.held _ yW)) h.out,h.held,
  λb f=>let ⟨c,t,z,e⟩:=h.rows b f;⟨c,t,z,EL d (.inr f) e⟩,h.za,h.la,h.ca,h.pa,h.pv⟩
def aI.off{u:wD}(h:aI u0 V B)(s:Off ⟨λ_=>False,S⟩ u0 u)(p:∀x,V.za=some x->S x.block)(r:∀x,V.la=some x->S x.block)(hc:∀x,V.ca=some x->S x.block)(t:∀x,V.pa=some x->S x.block):aI u V B:=by
 obtain⟨f,h2,g,h4⟩:=h;have e:∀{b o:Nat} {v:vL},S b->u0.cell? ⟨b,o,none⟩=some v->u.cell? ⟨b,o,none⟩=some v:=λc hc=>mX s (.inr c) hc;refine⟨λi z d=>?_,λi z d=>?_,λi z d=>?_,λi z d=>?_⟩
 ·obtain⟨b,o,x,y1,y2,y3,y4⟩:=f i z d;have c:=p _ x;exact⟨b,o,x,e c y1,e c y2,e c y3,e c y4⟩
 ·obtain⟨b,o,x,y1,y2,y3,y4⟩:=h2 i z d;have c:=r _ x;exact⟨b,o,x,e c y1,e c y2,e c y3,e c y4⟩
 ·obtain⟨b,o,x,y1,y2,y3,y4,y5,y6,y⟩:=g i z d;have c:=hc _ x;exact⟨b,o,x,e c y1,e c y2,e c y3,e c y4,e c y5,e c y6,e c y⟩
 obtain⟨b,o,x,y1,y2,y3⟩:=h4 i z d;have c:=t _ x;exact⟨b,o,x,e c y1,e c y2,e c y3⟩
def aF.off{u:wD}{l:List Int}(h:aF u0 pa l)(e:Off ⟨λ_=>False,S⟩ u0 u)(c:∀x,pa=some x->S x.block):aF u pa l:=λi n d=>by obtain⟨b,o,x,y⟩:=h i n d;have f:=c _ x;exact⟨b,o,x,mX e (.inr f) y⟩
theorem eu.tp{w:wD}{e:Nat->Prop}{v:vL}{τ:Nat->Question->Nat}{d:Nat}(h:eu (w.tp τ d noJ) e l v):eu w e l v:=by
 rcases h with h|⟨i,o,f,c,g,h2,p,h4⟩
 ·exact .inl h
 refine .inr ⟨i,o,f,c,g,h2,?_,h4⟩;rwa [aP]at p
def ZI(T:Array vL)(c:List Item):QuitsD tP 2 0 (G {(baseD 142).at ⟨T,[]⟩ c with mode:=.returning} [bot]):=by
 refine .inr ⟨rfl,G bot [],#[],yW,λw=>?_,?_⟩
 ·simp[G,Aka,unwind,func142,f142,results,doReturn,bot,Aj4,seen,GStep.after,Frame.at,baseD]
 refine .inr ⟨rfl,{frame:=bot,callers:=[],status:=.finished,dying:=none},#[],yW,λw=>?_,?_⟩
 ·simp[G,Aka,unwind,bot,Aj4,Frame.catches];rfl
 exact⟨rfl,rfl⟩
def ZJ{P:Aj9}{F:fI->Bool}{K:Kd}{R:Rl}{S:Nat->Prop}{u u1 w1:wD}{v v':vL}(f:∀b,S b->∃c t z,u.heap[b]? =some (.cells c t z))(I:(RK S u).le R)(Y:WR P F K R (w1.tp u1.tape u1.drawn noJ) u1)(hS:∀b r,R.rel b r->R.own r\/S r)(X:VR F R v v')(h:eu w1 (λb=>u.heap.size<=b) l v):eu u1 R.own l v':=by
 rcases h with⟨D,rfl⟩|⟨D,o,y,c,rfl,h2,M,h4,h5,h6,N⟩
 ·cases X
  exact .inl ⟨D,rfl⟩
 obtain⟨a',rfl,ha⟩:=uh X;obtain⟨p,rfl,J⟩:=OAR.some_inv ha;have d:R.own p:=(hS _ _ J).resolve_right λT=>by obtain⟨s,t,z,e⟩:=f p T;have E:=I.rel p p ⟨rfl,T,s,t,z,e⟩;have:=Y.inj _ _ _ J E;subst this;have:=(aS.1 e).1;omega
 obtain⟨x,x',A,Z,e3⟩:=Y.obj J;have g:w1.heap[o]? =some x:=by rw[jC]at A;rw[M]at A⊢; simpa[zk]using A
 rw[M]at g
 cases g
 refine .inr ⟨D,p,y,c,rfl,d,?_,h4,h5,h6,N⟩
 cases e3 with
 | @cells _ s _ _ _ hvs hz _=>
  have:=hz d;subst this;have G:s=c:=by refine Array.ext hvs.size.symm λi E Q=>?_;have:=hvs.get i _ _ (aG Q) (aG E);exact(N _ (Ah5 Q)).vr this
  rw[<-G];exact Z
 |owned _ ho=>cases ho
def ZK{I:fI->Prop}(Gd:Go.Tp.Good tP I){Fk:fI->Bool}(hF:FC tP Fk λ_=>false)(ag:Fk 144=true)(az:φ.tw=jh.tWg)(hk:k<φ.n)(r:wz S u0 V B k φ.f.C φ.n pa pl pc bb ib pb ob)(hB:aI u0 V B){ps:List Int}(hP:aF u0 pa ps)(au:tP.globals.size<=u0.heap.size)(F:∀v m u,φ.val k v m u↔eu u m l v)(hc:∀w,aI w V B->aF w pa ps->cF tP 144 #[V.val B,.int qi (k:Int),.slice pa pl pc] w λe w'=>∃v,e=rT v/\eu w' (λb=>w.heap.size<=b) l v):
 ∀(f t:Nat) (L:Array Bool) (a:Act) (H:Hold) (u:wD),cntF L<=f->KSt φ S u0 (V.val B) (.slice pa pl pc) k bb ib pb ob L a H u->aH tP false (vP tP φ k) (H,G ((baseD 142).at a [.inRegion kL (Region.linearise.go .any kL f t L [])]) [bot],u):=by
 have aA:∀v m u u',(∀b,m b->b<u.heap.size->u'.heap[b]? =u.heap[b]?)->φ.val k v m u->φ.val k v m u':=λv m u u' h1 h2=>(F _ _ _).2 (((F _ _ _).1 h2).keep h1);have D:(baseD 142).kind≠.early:=by intro e;cases e
 intro f
 induction f with
 |zero=>
  intro t L a H u ah h;exfalso;have h7:=h.l7;rw[NI (by rw[h.lsz];decide) false true]at h7;have:cnt1 (L.getD 7 true)<=0:=by unfold cntF at ah;omega
  rw[h7]at this;exact absurd this zE
 |succ f ih=>
  intro t L a H u ah h;have d:∀{i:Nat},i<8->L.getD i false=L.getD i true:=λhi=>NI (by rw[h.lsz];exact hi) _ _
  rcases FP kL f t L with⟨ak,_⟩|⟨i,hi,t',av⟩
  ·exfalso
   have no:∀{i:Nat},i<8->(∀j∈(([[],[],[],[],[],[2,3,4],[0,1,2,3,4,5],[0,1,2,3,4,5,6]]:List (List Nat))[i]?).getD [],L.getD j false=true)->L.getD i false=true:=λ{i} hi ha=>by
    rw[d hi]
    cases e:L.getD i true with
    |true=>rfl
    |false=>
     have:=(wu FQ).2 ⟨by rw[FT];exact hi,e,ha⟩;rw[ak]at this
     cases this
   have a0:=no (i:=0) zE yW;have a1:=no (i:=1) zE yW;have a2:=no (i:=2) zE yW;have a3:=no (i:=3) zE yW;have a4:=no (i:=4) zE yW;have a5:=no (i:=5) zE (λj J=>by simp at J;rcases J with rfl|rfl|rfl<;>assumption);have a6:=no (i:=6) zE (λj J=>by simp at J;rcases J with rfl|rfl|rfl|rfl|rfl|rfl<;>assumption);have a7:=no (i:=7) zE (λj J=>by simp at J;rcases J with rfl|rfl|rfl|rfl|rfl|rfl|rfl<;>assumption);rw[h.l7]at a7
   cases a7
  obtain⟨h1,h2,h3⟩:=(wu FQ).1 hi
  rw[FT]at h1;rw[av];have p:cntF (L.setIfInBounds i true)<=f:=by have:=Zg h.lsz h1 h2;omega
  have aa:∀(t:TypeId) (x:Nat) (v:vL),(∀w,(isAgg t).run tP w=.ok false w)->(∀u',Off ⟨λ_=>False,S⟩ u0 u'->u'.cell? ⟨x,0,none⟩=some v)->
   (∀u',Off ⟨λ_=>False,S⟩ u0 u'->(Ab9 t (.pointer (some ⟨x,0,none⟩))).run tP u'=.ok v u')/\∀u',Off ⟨λ_=>False,S⟩ u0 u'->∀e∈(Ab9 t (.pointer (some ⟨x,0,none⟩))).events tP u' #[],∃j,e=⟨.cell ⟨x,j,none⟩,false,false⟩:=λt x v hz hc=>by
   refine⟨λu' A=>(N8 t x v u' hz (hc u' A)).1,λu' A e he=>?_⟩;rw[(N8 t x v u' hz (hc u' A)).2]at he;simp at he;exact⟨0,he⟩
  have aw:i=0\/i=1\/i=2\/i=3\/i=4\/i=5\/i=6\/i=7:=zP
  rcases aw with rfl|rfl|rfl|rfl|rfl|rfl|rfl|rfl
  ·obtain⟨q1,K⟩:=aa 116 ob _ isAgg116 λu' A=>(r.off A).out
   exact yG (d:=5) h rfl rfl rfl rfl zE D h.p4 (r.held _ yW) q1 K λM E=>ih t' _ M H u p (h.put zE zE zE rfl E (λ_=>rfl) (λe=>by cases e) (λe=>by cases e) (λe=>by cases e) (λe=>by cases e) (λe=>by cases e))
  ·obtain⟨q1,K⟩:=aa 3 ib _ isAgg3 λu' A=>(r.off A).ix
   exact yG (d:=6) h rfl rfl rfl rfl zE D h.p2 (r.held _ yW) q1 K λM E=>ih t' _ M H u p (h.put zE zE zE rfl E (λe=>by cases e) (λ_=>rfl) (λe=>by cases e) (λe=>by cases e) (λe=>by cases e) (λe=>by cases e))
  ·exact yG (d:=7) h rfl rfl rfl rfl zE D h.p1 (r.held _ yW) (λu' A=>(N9 V B bb u' (r.off A).book).1) (λu' A=>(N9 V B bb u' (r.off A).book).2) λM E=>ih t' _ M H u p (h.put zE zE zE rfl E (λe=>by cases e) (λe=>by cases e) (λ_=>rfl) (λe=>by cases e) (λe=>by cases e) (λe=>by cases e))
  ·obtain⟨q1,K⟩:=aa 3 ib _ isAgg3 λu' A=>(r.off A).ix
   exact yG (d:=8) h rfl rfl rfl rfl zE D h.p2 (r.held _ yW) q1 K λM E=>ih t' _ M H u p (h.put zE zE zE rfl E (λe=>by cases e) (λe=>by cases e) (λe=>by cases e) (λ_=>rfl) (λe=>by cases e) (λe=>by cases e))
  ·obtain⟨q1,K⟩:=aa 28 pb _ isAgg28 λu' A=>(r.off A).ph
   exact yG (d:=9) h rfl rfl rfl rfl zE D h.p3 (r.held _ yW) q1 K λM E=>ih t' _ M H u p (h.put zE zE zE rfl E (λe=>by cases e) (λe=>by cases e) (λe=>by cases e) (λe=>by cases e) (λ_=>rfl) (λe=>by cases e))
  ·
    have af:=r.off h.off;have l2:=h.l2 (h3 2 yW);have l3:=h.l3 (h3 3 yW);have l4:=h.l4 (h3 4 yW);have hH:H=⟨(RK S u).own,S⟩:=by obtain⟨m,s⟩:=H;have e1:=h.before (by rw[d zE];exact h2);have e2:=h.sh;simp only at e1 e2;subst e1 e2;rfl
    subst hH;have ar:#[Operand.tmp 7,.tmp 8,.tmp 9].map a.eval=#[V.val B,.int qi (k:Int),.slice pa pl pc]:=by simp[ev,l2,l3,l4]
    have Z:∀{q:Option aD} {n c:Nat},(∀x,q=some x->S x.block)->VR Fk (RK S u) (.slice q n c) (.slice q n c):=λ{q n c} hq=>by
     cases q with
     |none=>exact .nilSlice _ _
     |some x=>exact mZ.vr (show mY S u x.block from⟨hq x rfl,af.rows _ (hq x rfl)⟩)
    have ac:VRs Fk (RK S u) #[V.val B,.int qi (k:Int),.slice pa pl pc] (#[Operand.tmp 7,.tmp 8,.tmp 9].map a.eval):=by rw[ar];refine((VRs.nil.push (.agg rfl ?_)).push (.int _ _)).push (Z r.pv);exact(((((((VRs.nil.push (.int _ _)).push (.int _ _)).push (.int _ _)).push (Z r.za)).push (Z r.la)).push (Z r.ca)).push (Z r.pa)).get
    have aj:∀(τ:Nat->Question->Nat) (b o:Nat) (v:vL),Imm v->u.cell? ⟨b,o,none⟩=some v->((frz Fk S u).tp τ 0 noJ).cell? ⟨b,o,none⟩=some v:=λτ b o v hv aq=>by rw[jQ _ _ _ dS];exact EO aq hv.neat
    have an:=hB.off h.off r.za r.la r.ca r.pa;have ao:=hP.off h.off r.pv;refine EW Gd hF (fn:=f144) (t:=6) func144 rfl ag (o:=_) rfl rfl D rfl (R:=RK S u) (S:=S) (w:=frz Fk S u) (λb b' hb=>.inr (by obtain⟨rfl,hr⟩:=hb;exact hr.1)) (λx hx=>by cases hx) (LH u) (LJ (Agd au h.off.size)) ac (Q:=λv w'=>eu w' (λb=>u.heap.size<=b) l v) (λv w τ d hq=>?_) (λτ=>?_) λR1 v v' w1 u1 ax aG aB hq _ hw ap X=>?_
    ·exact eu.tp hq
    ·have:=hc ((frz Fk S u).tp τ 0 noJ) (an.map (aj τ)) (ao.map (aj τ))
     rwa [show ((frz Fk S u).tp τ 0 noJ).heap.size=u.heap.size by rw[iw,EN]]at this
    have al:Off ⟨λ_=>False,S⟩ u u1:=⟨X.size,λb hb hm=>X.keep b hb (hm.elim (λx=>x.elim) λx=>.inr ⟨x,λy=>y⟩),X.same⟩
    have hh:=ZJ af.rows ax hw ap aB hq;refine ih t' _ _ _ u1 p ?_;have E:=dU a (d:=10) v' (by rw[h.size];decide);have o:∀j,j≠10->(a.put (some 10) v').tmps[j]?.getD ud=a.tmps[j]?.getD ud:=E.other;have g:∀{j:Nat},j≠5->(L.setIfInBounds 5 true).getD j false=true->L.getD j false=true:=λJ e=>by rwa [getD_set_ne false (Ne.symm J)]at e
    have aC:KSt φ S u0 (V.val B) (.slice pa pl pc) k bb ib pb ob (L.setIfInBounds 5 true) (a.put (some 10) v') ⟨R1.own,S⟩ u1:=?_
    ·exact aC
    refine⟨E.size.trans h.size,by simpa using h.lsz,E.defers.trans h.defers,?_,?_,?_,?_,λe=>?_,λe=>?_,λe=>?_,λe=>?_,λe=>?_,λe=>?_,?_,rfl,h.off.trans al,λe=>?_,λ_=>?_⟩
    ·rw[o 1 zE];exact h.p1
    ·rw[o 2 zE];exact h.p2
    ·rw[o 3 zE];exact h.p3
    ·rw[o 4 zE];exact h.p4
    ·rw[o 5 zE];exact h.l0 (g zE e)
    ·rw[o 6 zE];exact h.l1 (g zE e)
    ·rw[o 7 zE];exact h.l2 (g zE e)
    ·rw[o 8 zE];exact h.l3 (g zE e)
    ·rw[o 9 zE];exact h.l4 (g zE e)
    ·rw[o 11 zE];exact h.l6 (g zE e)
    ·rw[getD_set_ne false zE];exact h.l7
    ·rw[FU false (by rw[h.lsz];decide)]at e;cases e
    rw[E.same]
    exact(F _ _ _).2 hh
  ·have l0:=h.l0 (h3 0 yW)
   have l1:=h.l1 (h3 1 yW);obtain⟨o,A,Y,hg,T⟩:∃o,kL[6]? =some o/\o.op=.indexAddr 116 (.tmp 5) (.tmp 6)/\o.guard=none/\o.dst=some 11:=⟨_,rfl,rfl,rfl,rfl⟩;refine mW A (by simp[Ag2,hg]) D T (d:=11) (by rw[h.size];decide) (.pointer (some ⟨φ.f.C,k,none⟩)) (λu'=>?_) (λu'=>?_) λM E=>ih t' _ M H u p (h.put zE zE zE rfl E (λe=>by cases e) (λe=>by cases e) (λe=>by cases e) (λe=>by cases e) (λe=>by cases e) (λ_=>rfl))
   ·unfold execOp
    simp only[Y,ev,l0,l1];have:(k:Int)<(φ.n:Int):=zP
    simp[go_sem,this]
   unfold execOp
   simp only[Y,ev,l0,l1];have:(k:Int)<(φ.n:Int):=zP
   simp[go_sem,this]
  have h6:=h.l6 (h3 6 yW);have h5:=h3 5 yW;have ad:Region.linearise.go .any kL f t' (L.setIfInBounds 7 true) []=[]:=by
   cases f with
   |zero=>rfl
   |succ f=>
    rcases FP kL f t' (L.setIfInBounds 7 true)with⟨_,e⟩|⟨j,J,_⟩
    ·exact e
    exfalso
    obtain⟨q1,K,q3⟩:=(wu FQ).1 J;rw[FT]at q1;by_cases e:7=j
    ·subst e
     rw[FU true (by rw[h.lsz];decide)]at K
     cases K
    rw[getD_set_ne true e,<-d zP,h3 j xL]at K
    cases K
  rw[ad];obtain⟨o,A,Y,hg,T⟩:∃o,kL[7]? =some o/\o.op=.store 138 (.tmp 11) (.tmp 10)/\o.guard=none/\o.dst=none:=⟨_,rfl,rfl,rfl,rfl⟩;refine .stop rfl λu' X=>?_;have h':=h.off' aA X;have ae:=h'.after h5;generalize hv:a.tmps[10]?.getD ud=v at ae;refine⟨v,G ((baseD 142).at (a.put o.dst ud) [.inRegion kL []]) [bot],ae,λam=>?_,λu2 hl hh=>?_⟩
  ·obtain⟨cs,ai,hn⟩:=am
   have N:u'.cell? ⟨φ.f.C,k,none⟩=some (cs[k]' zP):=by simp[Aeq,ai,hn,hk]
   have ab:u'.frozen? ⟨φ.f.C,k,none⟩=false:=by simp[Aem,ai]
   have ay:∃q n c,v=.slice q n c:=by rcases(F _ _ _).1 ae with⟨_,e⟩|⟨_,ob,aE,c,e,_⟩<;>exact⟨_,_,_,e⟩
   obtain⟨q,n,c,rfl⟩:=ay;have hr:(execOp a.eval o).run tP u'=.ok .skip (u'.setCell ⟨φ.f.C,k,none⟩ (.slice q n c)):=by unfold execOp;simp only[Y,ev,h6,hv];simp[go_sem,N,ab]
   have he:(execOp a.eval o).events tP u' #[]=#[⟨.cell ⟨φ.f.C,k,none⟩,true,false⟩]:=by unfold execOp;simp only[Y,ev,h6,hv];simp[go_sem];refine(events_store tP u' #[] ⟨φ.f.C,k,none⟩ (.slice q n c) .plain rfl).trans ?_;simp[N,ab]
   rw[stepG_none A (by simp[Ag2,hg]) D hr]
   congr 1
   unfold listed;rw[he];simp[seen_def,seenStep,func142,f142,baseD]
  rw[T,show a.put none ud=a from rfl]
  refine⟨23,?_⟩;have hq:=ZI a.tmps [];rw[az]at hl⊢;have hK:KH jh.tWg φ.f.Wg φ.f.C k v u2:=⟨hl,hh⟩;refine Goes.step rfl λw1 r1=>?_;rw[stepG_region_end,goes_go];refine⟨⟨rfl,rfl⟩,Goes.step rfl λw2 r2=>?_⟩;rw[stepG_end,goes_go];refine⟨⟨rfl,rfl⟩,Goes.step rfl λw3 r3=>?_⟩;rw[stepG_unwind_enter h.defers oL.f_done (nm_done jh) rfl,goes_go];exact⟨⟨rfl,rfl⟩,Xx oL (k:=k+1) rfl hq w3 (kn_rely (kn_rely (kn_rely hK r1) r2) r3)⟩
end
end
section
open Go.ConcR (KK WgAt stA smA rd wr mk Payload DC0)
def Gf(c bb ib pb ob:Nat):Act:=⟨#[.pointer (some ⟨c,0,none⟩),.pointer (some ⟨bb,0,none⟩),.pointer (some ⟨ib,0,none⟩),.pointer (some ⟨pb,0,none⟩),.pointer (some ⟨ob,0,none⟩),ud,ud,ud,ud,ud,ud,ud],[]⟩
def ZL(c bb ib pb ob:Nat)(w:wD):Aka tP false (born tP (yA c bb ib pb ob)) w=.go (G ((baseD 142).at (Gf c bb ib pb ob) [.code BH]) [bot]) w #[]:=by simp[G,born,yA,Aka,unwind,callDeferred,invoke,Aj7,func142,f142,seen,GStep.after,Frame.enter,Frame.at,baseD,bot,BH,Gf]
variable {φ:Ph} {S:Nat->Prop} {V:BkV} {B:Bk} {k pl pc bb ib pb ob:Nat} {pa:Option aD} {l:List Past} {u:wD}
def ZM{I:fI->Prop}(A:Go.Tp.Good tP I){y:fI->Bool}(G:FC tP y λ_=>false)(c:y 144=true)(x:φ.tw=jh.tWg)(K:k<φ.n)(D:wz S u V B k φ.f.C φ.n pa pl pc bb ib pb ob)(F:aI u V B){ps:List Int}(J:aF u pa ps)(f:tP.globals.size<=u.heap.size)(d:∀v m u,φ.val k v m u↔eu u m l v)(hc:∀w,aI w V B->aF w pa ps->cF tP 144 #[V.val B,.int qi (k:Int),.slice pa pl pc] w λe N=>∃v,e=rT v/\eu N (λb=>w.heap.size<=b) l v):
 aH tP false (vP tP φ k) (⟨λ_=>False,S⟩,born tP (yA φ.f.Wg bb ib pb ob),u):=by
 have p:(baseD 142).kind≠.early:=by intro e;cases e
 refine aH.step' rfl λu1 r=>⟨(⟨λ_=>False,S⟩,_,u1),?_,#[],ZL _ _ _ _ _ u1,.still _ _,yW⟩;have M:tP.follows .mixedOrders=true:=xD
 simp only[BH,f142,Agx];refine mV (qh (mQ (λu'=>stepG_defer rfl rfl p rfl) (oM (NH M λt u2 s=>?_))));refine ZK A G c x K D F J f d hc 8 t (Afc 8 false) _ _ u2 zE ?_;have g:∀{i:Nat} {Q:Prop},(Afc 8 false).getD i false=true->Q:=λ{i Q} h=>by
  exfalso
  rcases Nat.lt_or_ge i 8 with E|E
  ·simp_all
  grind
 exact⟨rfl,rfl,by simp[Gf,Act.put,Act.eval],rfl,rfl,rfl,rfl,λe=>g e,λe=>g e,λe=>g e,λe=>g e,λe=>g e,λe=>g e,rfl,rfl,r.trans s,λ_=>rfl,λe=>g e⟩
end
end Go.Proofs.Y
namespace Go.Tp
open Go.Conc Go.ConcN
section
variable {P:Program}
def ZN{dead:Nat->Prop}{g g1:Goroutine}{f:wD->wD}{u0:wD}(I:g.status=.running)(aj:∀d,Aka P true g (u0.at d)=.go g1 (f (u0.at d)) #[]):
 ∀(M d0:Nat) (e:Array Goroutine) (sl:Option (Nat×Nat)) (t:Trace) (q:Nat->Nat),sumTo e.size q=M->e[0]? =some g->Leavers P t e q->Past (bW dead) u0.heap.size t->
  ∃(N d:Nat) (p:Array Goroutine) (r:Option (Nat×Nat)) (X:Trace) (q':Nat->Nat),
   runNT P N (crowd e (u0.at d0) sl) t=(.next (crowd p (f (u0.at d)) r),X)/\p.size=e.size/\p[0]? =some g1/\Leavers P X p q'/\Past (bW dead) u0.heap.size X/\vO ⟨λ_=>False,λ_=>False⟩ t X:=by
 intro M
 induction M using Nat.strongRecOn with
 |_ M ihM=>
 intro d0 e sl t q hM h0 T hP;have ah:∀g∈e,awake g:=by
  intro x hx;obtain⟨i,E,rfl⟩:=Array.mem_iff_getElem.1 hx
  rcases Af6 i with rfl|A
  ·have:e[0]=g:=by simpa[aG E]using h0
   grind [awake_of]
  exact awake_of ((T.old i _ A (aG E)).status.elim .inl λx=>.inr (.inr x))
 obtain⟨i,D,s,r,E,hg,R⟩:=crowd_pick (P:=P) (w:=u0.at d0) (sl:=sl) ah ⟨0,g,h0,I⟩;have e1:(u0.at d0).at s=u0.at s:=rfl;rw[e1]at R
 rcases Af6 i with rfl|A
 ·obtain rfl:D=g:=by rw[h0]at E;exact(Option.some.inj E).symm
  have c:=runT_crowd_go (P:=P) (sl:=r) (i:=0) E (show Aka P (0==0) D (u0.at s)=.go g1 (f (u0.at s)) #[]from aj s);have hlt:0<e.size:=by grind
  have ai:MemOp.ofEvents 0 D.frame.fn D.frame.place #[]=#[]:=by simp[MemOp.ofEvents]
  rw[ai]at c;refine⟨1,s,(e.map (woken P D g1 (f (u0.at s)))).setIfInBounds 0 g1,r,t,q,by simp[runNT,R,c],yW,by simp[hlt],⟨λm x G hx=>?_,λm G=>T.above m (by grind)⟩,hP,#[],yW,yW⟩;have J:0≠m:=zP
  rw[Ad2 J,Aea]at hx;obtain⟨y,hy,rfl⟩:=Ht.1 hx;have Y:=T.old m y G hy
  grind [woken_quitsD]
 have Y:=T.old i D A E;have ak:(i==0)=false:=by simp;omega
 have hlt:i<e.size:=(aS.1 E).1
 cases Q:q i with
 |zero=>rw[Q]at Y;rw[Y.1]at hg;cases hg
 |succ k=>
  rw[Q]at Y
  rcases Y with⟨hf,_⟩|⟨_,g',es,G,aa,ao⟩
  ·rw[hf]at hg;cases hg
  have c:=runT_crowd_go (P:=P) (sl:=r) (i:=i) E (by rw[ak];exact aa (u0.at s));have ab:((e.map (woken P D g' (u0.at s))).setIfInBounds i g').size=e.size:=yW
  have an:sumTo e.size (upd q i k)+(k+1)=sumTo e.size q+k:=by have:=sumTo_upd q k id hlt;simpa[Q]using this
  obtain⟨N,d,p,ac,X,q',al,am,ad,ae,af,ag⟩:=ihM (sumTo e.size (upd q i k)) zP s ((e.map (woken P D g' (u0.at s))).setIfInBounds i g') r (t++MemOp.ofEvents i D.frame.fn D.frame.place es) (upd q i k) (by rw[ab])
   (by
    have J:i≠0:=zP
    rw[Ad2 J,Aea,h0];simp[woken_run I])
   ⟨λm x G hx=>by
    by_cases F:i=m
    ·subst F;rw[Array.getElem?_setIfInBounds_self_of_lt (by grind)]at hx
     grind [Option.some.inj,upd_same,Deaf_own]
    ·rw[Ad2 F,Aea]at hx;obtain⟨y,hy,rfl⟩:=Ht.1 hx;have Z:=T.old m y G hy;rw[woken_quitsD Z,upd_ne q k (Ne.symm F),Deaf_other t F _ (λop K=>fV K)];exact Z,λm G=>by
    rw[Deaf_other t (g':=i) (by simp at G;omega) _ (λop K=>fV K)];exact T.above m (by grind)⟩
   (hP.mute zP G)
  exact⟨N+1,d,p,ac,X,q',by simp only[runNT,R,c];exact al,am.trans ab,ad,ae,af,ag.ahead (KT G) (λ_ x=>x) rfl⟩
end
end Go.Tp
namespace Go.Proofs.Y
open Go.RowKit Go.Tp Go.Meter Go.Conc Go.ConcN Go.Conc.Lib Go.ConcR.Gen Go.ConcN.Gen
section
open Go.ConcR (KK WgAt stA smA rd wr mk Payload DC0)
def rX:Code:=f96.body.getD .skip
def lr2:Code:=match rX with|.seq _ (.seq _ c)=>c|_=>.skip
def yH:Array Ajd:=match lr2 with|.seq (.region _ ops _) _=>ops|_=>#[]
def nK:Code:=match lr2 with|.seq _ c=>c|_=>.skip
def BM:Code:=match nK with|.seq (.seq _ (.block _ (.loop c))) _=>c|_=>.skip
def lr9:Code:=match nK with|.seq _ c=>c|_=>.skip
def BN:Code:=match lr9 with|.seq _ c=>c|_=>.skip
theorem uF{w:wD}{o:Obj}:(w.alloc o).heap[w.heap.size]? =some o:=by
 show (w.heap.push o)[w.heap.size]? =some o
 simp
def Chg(j:Nat):Prop:=j=7\/j=8\/(14<=j/\j<=24)
def wB(v:vL):Prop:=v.single\/v=ud
structure LSt (T0:Array vL) (a:Act):Prop where
 size:a.tmps.size=29
 defers:a.defers=[]
 same:∀j,¬Chg j->a.tmps[j]?.getD ud=T0[j]?.getD ud
 tame:∀j,Chg j->j≠19->wB (a.tmps[j]?.getD ud)
theorem LSt.put{T0:Array vL}{a a':Act}{d:Nat}{v:vL}(h:LSt T0 a)(f:Put a a' d v)(i:Chg d)(p:d≠19->wB v):LSt T0 a':=by
 refine⟨f.size.trans h.size,f.defers.trans h.defers,λj g=>?_,λj g c=>?_⟩
 ·rw[f.other j (λe=>g (e▸i))];exact h.same j g
 by_cases e:j=d
 ·subst e;rw[f.same];exact p c
 rw[f.other j e];exact h.tame j g c
structure MKL (u0:wD) (S0:Nat->Prop) (C Wg:Nat) (H:Hold) (u:wD):Prop where
 old:∀b,S0 b->u.heap[b]? =u0.heap[b]?
 sz:u0.heap.size<=u.heap.size
 hd:∀b,S0 b->H.mine b\/H.sh b
 rows:∀b,H.mine b\/H.sh b->∃c t z,u.heap[b]? =some (.cells c t z)
 no:∀b,H.mine b\/H.sh b->b≠C/\b≠Wg
 lt:∀b,S0 b->b<u0.heap.size
 C:C<u0.heap.size
 Wg:Wg<u0.heap.size
section
variable {u0 u u':wD} {S0:Nat->Prop} {C Wg:Nat} {H H':Hold}
def MKL.off(M:MKL u0 S0 C Wg H u)(f:Off H u u'):MKL u0 S0 C Wg H u':=
 ⟨λb d=>(f.keep b (nL (M.lt b d) M.sz) (M.hd b d)).trans (M.old b d),Agd M.sz f.size,M.hd,λb d=>let ⟨c,t,z,e⟩:=M.rows b d;⟨c,t,z,EL f d e⟩,M.no,M.lt,M.C,M.Wg⟩
theorem MKL.alloc(M:MKL u0 S0 C Wg H u)(c:Array vL)(t:TypeId):MKL u0 S0 C Wg (H.more u (u.alloc (.cells c t))) (u.alloc (.cells c t)):=by
 have r:=M.sz;have i:=M.C;have p:=M.Wg;refine⟨λb d=>?_,by simp;omega,λb d=>(M.hd b d).imp .inl id,λb d=>?_,λb d=>?_,M.lt,M.C,M.Wg⟩
 ·rw[Ai3 u _ b (nL (M.lt b d) M.sz)];exact M.old b d
 ·rcases d with(d|d)|d
  ·obtain⟨f,g,z,e⟩:=M.rows b (.inl d);exact⟨f,g,z,by rw[Ai3 u _ b (aS.1 e).1];exact e⟩
  ·have:b=u.heap.size:=by have:=d.2;simp at this;omega
   grind [uF]
  obtain⟨f,g,z,e⟩:=M.rows b (.inr d);exact⟨f,g,z,by rw[Ai3 u _ b (aS.1 e).1];exact e⟩
 rcases d with(d|d)|d
 ·exact M.no b (.inl d)
 ·grind
 exact M.no b (.inr d)
theorem MKL.set(M:MKL u0 S0 C Wg H u){n:Nat}{v:vL}(hn:u0.heap.size<=n):MKL u0 S0 C Wg H (u.setCell ⟨n,0,none⟩ v):=by
 refine⟨λb d=>?_,by simp;exact M.sz,M.hd,λb d=>?_,M.no,M.lt,M.C,M.Wg⟩
 ·have:=M.lt b d;rw[xZ _ _ _ xL];exact M.old b d
 obtain⟨c,t,z,e⟩:=M.rows b d;by_cases f:b=n
 ·subst f;exact⟨c.setIfInBounds 0 v,t,z,by simp[Abn,Hy,e]⟩
 grind [xZ]
def MKL.share(M:MKL u0 S0 C Wg H u):MKL u0 S0 C Wg H.shared u:=
 ⟨M.old,M.sz,λb c=>.inr (M.hd b c),λb c=>M.rows b (c.elim (λx=>x.elim) id),λb c=>M.no b (c.elim (λx=>x.elim) id),M.lt,M.C,M.Wg⟩
theorem MKL.cell(M:MKL u0 S0 C Wg H u){b o:Nat}{v:vL}(c:S0 b)(h:u0.cell? ⟨b,o,none⟩=some v):u.cell? ⟨b,o,none⟩=some v:=by rw[Ah0 (w:=u0) (M.old b c)];exact h
end
structure yI (φ:Ph) (u0:wD) (S0:Nat->Prop) (V:BkV) (B:Bk) (qa:Option aD) (pl pc bb pb ob:Nat) (ps:List Int) (ks:List Nat):Prop where
 tw:φ.tw=jh.tWg
 book:∀(i:Nat) (x:vL),(V.row B)[i]? =some x->u0.cell? ⟨bb,i,none⟩=some x
 ph:u0.cell? ⟨pb,0,none⟩=some (.slice qa pl pc)
 out:u0.cell? ⟨ob,0,none⟩=some (.slice (some ⟨φ.f.C,0,none⟩) φ.n φ.n)
 held:∀b∈[bb,pb,ob],S0 b
 za:∀x,V.za=some x->S0 x.block
 la:∀x,V.la=some x->S0 x.block
 ca:∀x,V.ca=some x->S0 x.block
 pa:∀x,V.pa=some x->S0 x.block
 pv:∀x,qa=some x->S0 x.block
 at_:aI u0 V B
 nums:aF u0 qa ps
 gl:tP.globals.size<=u0.heap.size
 n:φ.n=B.L.length
 val:∀k v m u,φ.val k v m u↔eu u m (B.hist k ks) v
 hist:∀(k:Nat) w,k<φ.n->aI w V B->aF w qa ps->cF tP 144 #[V.val B,.int qi (k:Int),.slice qa pl pc] w λe w'=>∃v,e=rT v/\eu w' (λb=>w.heap.size<=b) (B.hist k ks) v
def ZO{φ:Ph}{u0 u:wD}{S0:Nat->Prop}{V:BkV}{B:Bk}{pa:Option aD}{pl pc bb pb ob ib k:Nat}{ps:List Int}{ks:List Nat}{H:Hold}(L:yI φ u0 S0 V B pa pl pc bb pb ob ps ks)(M:MKL u0 S0 φ.f.C φ.f.Wg H u)(f:H.mine ib\/H.sh ib)(hc:u.cell? ⟨ib,0,none⟩=some (.int qi (k:Int))):wz (λb=>H.mine b\/H.sh b) u V B k φ.f.C φ.n pa pl pc bb ib pb ob:=by
 have c:=L.held;refine⟨λi x hx=>M.cell (c _ yW) (L.book i x hx),hc,M.cell (c _ yW) L.ph,M.cell (c _ yW) L.out,λb d=>?_,M.rows,λx e=>M.hd _ (L.za x e),λx e=>M.hd _ (L.la x e),λx e=>M.hd _ (L.ca x e),λx e=>M.hd _ (L.pa x e),λx e=>M.hd _ (L.pv x e)⟩;simp only[Ab3,Aav,or_false]at d
 rcases d with rfl|rfl|rfl|rfl
 ·exact M.hd _ (c _ yW)
 ·exact f
 ·exact M.hd _ (c _ yW)
 exact M.hd _ (c _ yW)
def Oa{φ:Ph}{u0 u:wD}{S0:Nat->Prop}{V:BkV}{B:Bk}{pa:Option aD}{pl pc bb pb ob:Nat}{ps:List Int}{ks:List Nat}{H:Hold}(L:yI φ u0 S0 V B pa pl pc bb pb ob ps ks)(M:MKL u0 S0 φ.f.C φ.f.Wg H u):aI u V B/\aF u pa ps:=by have c:Off ⟨λ_=>False,S0⟩ u0 {u with tape:=u0.tape,os:=u0.os,output:=u0.output}:=⟨M.sz,λb e d=>M.old b (d.elim (λx=>x.elim) id),rfl,rfl,rfl⟩;exact⟨(L.at_.off c L.za L.la L.ca L.pa).map λ_ _ _ _ h=>h,(L.nums.off c L.pv).map λ_ _ _ _ h=>h⟩
end
section
open Go.ConcR (KK WgAt stA smA rd wr mk Payload DC0)
def yJ{k:IntKind}{n:Int}:wB (.int k n):=.inl trivial
def BO{p:aD}:wB (.pointer (some p)):=.inl trivial
def ZP{b:fR}{a:Act}{ops:Array Ajd}{i:Nat}{d:List Nat}{k:List Item}{cs:List fR}{o:Ajd}{r p:Nat}{g:Array TypeId}(y:ops[i]? =some o)(f:o.op=.call {callee:=.value (.func 141),args:=#[.tmp p,.const (.int qi 1)],argTypes:=g})(A:o.guard=none)(x:b.kind≠.early)(t:a.tmps[p]?.getD ud=.pointer (some ⟨r,0,none⟩))(u:wD):Aka tP true (G (b.at a (.inRegion ops (i::d)::k)) cs) u=.go (AP jh r (b.at a (.inRegion ops (i::d)::k)::cs)) u #[]:=by
 have s:(addFn jh).body.isNone=false:=rfl;rw[stepG_enter y (by grind [Ag2]) x (run_call_body f oL.f_add (nm_add jh) s),enter_at (c:=body_add jh) _ oL.f_add rfl];have:listed tP b.fn a o u=#[]:=by unfold listed;rw[events_call_body f oL.f_add (nm_add jh) s];exact seen_none _ _
 rw[this];have e:#[Operand.tmp p,.const (.int qi 1)].map a.eval=#[.pointer (some ⟨r,0,none⟩),.int qi 1]:=by simp[t,Act.eval]
 rw[e];rfl
section
variable {φ:Ph} {Fin:Hold->Goroutine->wD->Prop} {u0:wD} {S0:Nat->Prop} {V:BkV} {B:Bk} {qa:Option aD} {pl pc bb pb ob:Nat} {ps:List Int} {ks:List Nat} {T0:Array vL}
def ZQ{I:fI->Prop}(Gd:Go.Tp.Good tP I){Fk:fI->Bool}(hF:FC tP Fk λ_=>false)(aj:Fk 144=true)(L:yI φ u0 S0 V B qa pl pc bb pb ob ps ks)(h2:T0[2]?.getD ud=.pointer (some ⟨bb,0,none⟩))(h3:T0[3]?.getD ud=.pointer (some ⟨pb,0,none⟩))(h6:T0[6]?.getD ud=.pointer (some ⟨ob,0,none⟩))(b:fR)(y:b.kind≠.early)(cs:List fR)(kr:List Item)(x:Nat)(af:∀H a u,LSt T0 a->a.tmps[7]?.getD ud=.pointer (some ⟨φ.f.Wg,0,none⟩)->a.tmps[19]?.getD ud=.bool false->MKL u0 S0 φ.f.C φ.f.Wg H u->aZ tP φ Fin x (.idle φ.n) (H,G (b.at a kr) cs,u)):
 ∀(m k:Nat),k+m=φ.n->∀(H:Hold) (a:Act) (u:wD),LSt T0 a->a.tmps[7]?.getD ud=.pointer (some ⟨φ.f.Wg,0,none⟩)->a.tmps[17]?.getD ud=.int qi (φ.n:Int)->a.tmps[18]?.getD ud=.int qi (k:Int)->MKL u0 S0 φ.f.C φ.f.Wg H u->
  aZ tP φ Fin (x+m*500) (.idle k) (H,G (b.at a (.code BM:: .inLoop BM:: .inBlock 0::kr)) cs,u):=by
 intro m
 induction m with
 |zero=>
  intro k hk H a u hl p7 g i M;obtain rfl:k=φ.n:=zP
  rw[Nat.zero_mul,Nat.add_zero];simp only[BM,nK,lr2,rX,f96,Agx];refine mV (qh (mW rfl rfl y rfl (d:=19) (by rw[hl.size];decide) (.bool false) (λu'=>?_) (λu'=>?_) λa' hp=>oM ?_))
  ·simp[go_sem,g,i]
  ·simp[go_sem,g,i]
  have az:=hl.put hp (.inr (.inr ⟨zE,zE⟩)) (λe=>absurd rfl e);refine mV (Lm false (by rw[ev];exact hp.same) (XE rfl (af H a' u az ?_ hp.same M)));rw[hp.other 7 zE];exact p7
 |succ m ih=>
  intro k hk H a u hl p7 g i M;have hlt:(k:Int)<(φ.n:Int):=zP
  have R:k<φ.n:=zP
  have aE:=φ.small;have hd:=L.held;simp only[BM,nK,lr2,rX,f96,Agx];refine mV (qh (mW rfl rfl y rfl (d:=19) (by rw[hl.size];decide) (.bool true) (λu'=>?_) (λu'=>?_) λa1 r=>oM ?_))
  ·simp[go_sem,g,i];omega
  ·simp[go_sem,g,i]
  have T:=hl.put r (.inr (.inr ⟨zE,zE⟩)) (λe=>absurd rfl e);have q7:a1.tmps[7]?.getD ud=.pointer (some ⟨φ.f.Wg,0,none⟩):=by rw[r.other 7 zE];exact p7
  have ao:a1.tmps[17]?.getD ud=.int qi (φ.n:Int):=by rw[r.other 17 zE];exact g
  have F:a1.tmps[18]?.getD ud=.int qi (k:Int):=by rw[r.other 18 zE];exact i
  refine mV (Lm true (by rw[ev];exact r.same) (XA (mV (Ll (mV (qh ?_))))));clear hl p7 g i;refine mW rfl rfl y rfl (d:=20) (by rw[T.size];decide) (.int qi (k:Int)) (λu'=>?_) (λu'=>?_) λa2 s=>?_
  ·simp[go_sem,F]
  ·simp[go_sem,F]
  have X:=T.put s (.inr (.inr ⟨zE,zE⟩)) (λ_=>yJ);refine XI rfl rfl y rfl (d:=8) (by rw[X.size];decide) (λn=>.pointer (some ⟨n,0,none⟩)) (.cells #[.int qi 0] 3) (λu'=>?_) (λu'=>?_) λu1 Z p f=>?_
  ·simp[go_sem]
  ·simp[go_sem]
  have Y:=X.put f (.inr (.inl rfl)) (λ_=>BO);have M1:=(M.off Z).alloc #[.int qi 0] 3;have hm1:(H.more u1 (u1.alloc (.cells #[.int qi 0] 3))).mine u1.heap.size:=.inr ⟨nR _,yW⟩;have ae:(u1.alloc (.cells #[.int qi 0] 3)).heap[u1.heap.size]? =some (.cells #[.int qi 0] 3 (0,0)):=uF;have an:u0.heap.size<=u1.heap.size:=(M.off Z).sz;have s8:p.tmps[8]?.getD ud=.pointer (some ⟨u1.heap.size,0,none⟩):=f.same;have ai:p.tmps[20]?.getD ud=.int qi (k:Int):=by rw[f.other 20 zE];exact s.same
  have s7:p.tmps[7]?.getD ud=.pointer (some ⟨φ.f.Wg,0,none⟩):=by rw[f.other 7 zE,s.other 7 zE];exact q7
  have ap:p.tmps[17]?.getD ud=.int qi (φ.n:Int):=by rw[f.other 17 zE,s.other 17 zE];exact ao
  have aq:p.tmps[18]?.getD ud=.int qi (k:Int):=by rw[f.other 18 zE,s.other 18 zE];exact F
  generalize aw:H.more u1 (u1.alloc (.cells #[.int qi 0] 3))=H1 at M1 hm1;generalize hn:u1.heap.size=ib at hm1 ae an s8;clear r s f T X q7 ao F M aw;refine XJ rfl rfl y rfl λu2 aa=>?_;have E:=EL aa (.inl hm1) ae;have J:u2.cell? ⟨ib,0,none⟩=some (.int qi 0):=by simp[Aeq,E]
  have N:u2.frozen? ⟨ib,0,none⟩=false:=by simp[Aem,E]
  refine⟨H1,u2.setCell ⟨ib,0,none⟩ (.int qi (k:Int)),?_,.set H1 u2 _ _ hm1,?_,?_⟩
  ·simp[go_sem,s8,ai,J,N]
  ·intro e he;simp[go_sem,s8,ai,J,N]at he;subst he;exact .write hm1
  have M3:=(M1.off aa).set (v:=.int qi (k:Int)) an;have K:(u2.setCell ⟨ib,0,none⟩ (.int qi (k:Int))).cell? ⟨ib,0,none⟩=some (.int qi (k:Int)):=by simp[Abn,Aeq,Hy,E]
  generalize u2.setCell ⟨ib,0,none⟩ (.int qi (k:Int))=u3 at M3 K;clear ae E J N aa Z M1 u1 hn;refine oM (mV (qh (.stop rfl λu4 ab=>?_)));have e:x+(m+1)*500=((x+m*500)+1+498)+1:=zP
  rw[e];have ax:¬(H1.mine φ.f.Wg\/H1.sh φ.f.Wg):=λh=>(M3.no _ h).2 rfl;refine .inr λam=>⟨_,ZP rfl rfl rfl y s7 u4,aZ.le (ρ:=(x+m*500)+1+400) zP (XK oL L.tw ax R (λu5 Q=>?_) u4 ⟨am,Off.refl _ _⟩)⟩;have M5:=(M3.off ab).off Q.2;have ay:=mX Q.2 (.inl hm1) (mX ab (.inl hm1) K);clear ab Q M3 K am;have ad:=dU p (d:=21) (.tuple #[]) (by rw[Y.size];decide);have c:=Y.put ad (.inr (.inr ⟨zE,zE⟩)) (λ_=>.inr rfl);have s2:T0[2]?.getD ud=.pointer (some ⟨bb,0,none⟩):=h2;refine oM (qh ?_);have w:∀j,j≠21->(p.put (some 21) (.tuple #[])).tmps[j]?.getD ud=p.tmps[j]?.getD ud:=ad.other;have r2:(p.put (some 21) (.tuple #[])).tmps[2]?.getD ud=.pointer (some ⟨bb,0,none⟩):=(c.same 2 (by unfold Chg;omega)).trans h2;have r3:(p.put (some 21) (.tuple #[])).tmps[3]?.getD ud=.pointer (some ⟨pb,0,none⟩):=(c.same 3 (by unfold Chg;omega)).trans h3;have r6:(p.put (some 21) (.tuple #[])).tmps[6]?.getD ud=.pointer (some ⟨ob,0,none⟩):=(c.same 6 (by unfold Chg;omega)).trans h6;have r7:=(w 7 zE).trans s7;have r8:=(w 8 zE).trans s8;have ag:=(w 17 zE).trans ap;have ah:=(w 18 zE).trans aq
  change aH _ true _ (H1,G (b.at (p.put (some 21) (.tuple #[])) _) cs,u5)
  generalize p.put (some 21) (.tuple #[])=a4 at c r2 r3 r6 r7 r8 ag ah⊢;clear w ad Y s7 s8 ap aq ai s2;refine mW rfl rfl y rfl (d:=22) (by rw[c.size];decide) (.func (.func 142) #[] #[.pointer (some ⟨φ.f.Wg,0,none⟩),.pointer (some ⟨bb,0,none⟩),.pointer (some ⟨ib,0,none⟩),.pointer (some ⟨pb,0,none⟩),.pointer (some ⟨ob,0,none⟩)]) (λu'=>?_) (λu'=>?_) λa5 t=>?_
  ·simp[go_sem,r2,r3,r6,r7,r8]
  ·simp[go_sem]
  have ak:=c.put t (.inr (.inr ⟨zE,zE⟩)) (λ_=>.inl trivial);have au:=t.same;have aC:=(t.other 17 zE).trans ag;have ar:=(t.other 18 zE).trans ah;have t7:=(t.other 7 zE).trans r7;clear t c r2 r3 r6 r7 r8 ag ah;refine .stop rfl λu6 ac=>.inl ⟨_,_,(stepG_spawn rfl rfl y (d:=yA φ.f.Wg bb ib pb ob) (w':=u6) ?h1 rfl).trans (congrArg (λes=>GStep.spawn _ _ _ es) (listed_nil ?h2)),?h3,?h4⟩
  case h1=>simp[go_sem,au,yA]
  case h2=>simp[go_sem,au]
  case h3=>have M6:=M5.off ac;exact ZM Gd hF aj L.tw R (ZO L M6 (.inl hm1) (mX ac (.inl hm1) ay)) (Oa L M6).1 (Oa L M6).2 (Agd L.gl M6.sz) (L.val k) λw h1 h2=>L.hist k w R h1 h2
  have M6:=(M5.off ac).share;refine oM (XB (qh ?_));have aB:IntKind.i64.wrap ((k:Int)+1)=((k+1 :Nat):Int):=by rw[IntKind.wrap_i64];omega
  refine mW rfl rfl y rfl (d:=23) (by show a5.tmps.size>23;rw[ak.size];decide) (.int qi ((k+1 :Nat):Int)) (λu'=>?_) (λu'=>?_) λa6 A=>?_
  ·simp[go_sem,Act.put,ar,aB]
  ·simp[go_sem,Act.put,ar]
  have al:=ak.put (a:=a5) A (.inr (.inr ⟨zE,zE⟩)) (λ_=>yJ);have av:=A.same;have aD:=(A.other 17 zE).trans aC;have x7:=(A.other 7 zE).trans t7;refine mW rfl rfl y rfl (d:=18) (by rw[al.size];decide) (.int qi ((k+1 :Nat):Int)) (λu'=>?_) (λu'=>?_) λa7 D=>?_
  ·simp[go_sem,av]
  ·simp[go_sem,av]
  have aA:=al.put D (.inr (.inr ⟨zE,zE⟩)) (λ_=>yJ);exact oM (XD (ih (k+1) zP H1.shared a7 u6 aA ((D.other 7 zE).trans x7) ((D.other 17 zE).trans aD) D.same M6))
end
end
section
open Go.ConcR (KK WgAt stA smA rd wr mk Payload DC0)
def ZR:Array Ajd:=match lr9 with|.seq (.region _ ops _) _=>ops|_=>#[]
def ZT{b:fR}{a:Act}{ops:Array Ajd}{i:Nat}{d:List Nat}{k:List Item}{cs:List fR}{o:Ajd}{r p:Nat}{g:Array TypeId}(y:ops[i]? =some o)(f:o.op=.call {callee:=.value (.func 145),args:=#[.tmp p],argTypes:=g})(A:o.guard=none)(x:b.kind≠.early)(t:a.tmps[p]?.getD ud=.pointer (some ⟨r,0,none⟩))(u:wD):Aka tP true (G (b.at a (.inRegion ops (i::d)::k)) cs) u=.go (AQ jh r (b.at a (.inRegion ops (i::d)::k)::cs)) u #[]:=by
 have s:(waitFn jh).body.isNone=false:=rfl;rw[stepG_enter y (by grind [Ag2]) x (run_call_body f oL.f_wait (nm_wait jh) s),enter_at (c:=body_wait jh) _ oL.f_wait rfl];have:listed tP b.fn a o u=#[]:=by unfold listed;rw[events_call_body f oL.f_wait (nm_wait jh) s];exact seen_none _ _
 rw[this];have e:#[Operand.tmp p].map a.eval=#[.pointer (some ⟨r,0,none⟩)]:=by simp[ev,t]
 rw[e];rfl
def Ob(T0:Array vL)(c:Nat)(b:fR)(cs:List fR)(_:Hold)(g:Goroutine)(u:wD):Prop:=
 ∃a m,LSt T0 a/\a.tmps[7]?.getD ud=.pointer (some ⟨c,0,none⟩)/\a.tmps[19]?.getD ud=.bool false/\GK tP vS (λg _=>g=G (b.at (a.put (some 24) (.tuple #[])) (.inRegion ZR []::[.code BN])) cs) m g u
section
variable {φ:Ph} {u0:wD} {S0:Nat->Prop} {V:BkV} {B:Bk} {qa:Option aD} {pl pc bb pb ob:Nat} {ps:List Int} {ks:List Nat} {T0:Array vL}
def ZU{I:fI->Prop}(Gd:Go.Tp.Good tP I){Fk:fI->Bool}(hF:FC tP Fk λ_=>false)(x:Fk 144=true)(L:yI φ u0 S0 V B qa pl pc bb pb ob ps ks)(h2:T0[2]?.getD ud=.pointer (some ⟨bb,0,none⟩))(h3:T0[3]?.getD ud=.pointer (some ⟨pb,0,none⟩))(h6:T0[6]?.getD ud=.pointer (some ⟨ob,0,none⟩))(b:fR)(f:b.kind≠.early)(cs:List fR)(H:Hold)(a:Act)(y:LSt T0 a)(p7:a.tmps[7]?.getD ud=.pointer (some ⟨φ.f.Wg,0,none⟩))(M:MKL u0 S0 φ.f.C φ.f.Wg H u0):
 aZ tP φ (Ob T0 φ.f.Wg b cs) (321+500*φ.n+φ.n*500) (.idle 0) (H,G (b.at a (.inRegion yH []::[.code nK])) cs,u0):=by
 have hd:=L.held;have p2:=(y.same 2 (by unfold Chg;omega)).trans h2;have c4:u0.cell? ⟨bb,4,none⟩=some (.slice V.la B.L.length V.lc):=L.book 4 _ rfl;have Y:=ZQ (Fin:=Ob T0 φ.f.Wg b cs) (T0:=T0) Gd hF x L h2 h3 h6 b f cs [.code lr9] (321+500*φ.n) (λH a u y q7 Z M=>?_) φ.n 0 zP
 ·refine oM ?_;simp only[nK,lr2,rX,f96,Agx];refine mV (mV (qh ?_));refine mW rfl rfl f rfl (d:=14) (by rw[y.size];decide) (.pointer (some ⟨bb,0,none⟩)) (λu'=>?_) (λu'=>?_) λa1 p=>?_
  ·simp[go_sem,p2]
  ·simp[go_sem,p2]
  have A:=y.put p (.inr (.inr ⟨zE,zE⟩)) (λ_=>BO);have J:=p.same;refine mW rfl rfl f rfl (d:=15) (by rw[A.size];decide) (.pointer (some ⟨bb,4,none⟩)) (λu'=>?_) (λu'=>?_) λa2 r=>?_
  ·simp[go_sem,J]
  ·simp[go_sem,J]
  have D:=A.put r (.inr (.inr ⟨zE,zE⟩)) (λ_=>BO);have K:=r.same;have i:=M.hd _ (hd bb yW);refine Ls rfl rfl f rfl (d:=16) (by rw[D.size];decide) (.slice V.la B.L.length V.lc) (λu' X=>?_) (λu' X e he=>?_) λa3 s=>?_
  ·have:=mX X i c4;simp[go_sem,K,this]
  ·have:=mX X i c4;simp[go_sem,K,this]at he;subst he;exact .read i
  have E:=D.put s (.inr (.inr ⟨zE,zE⟩)) (λ_=>.inl trivial);have N:=s.same;refine mW rfl rfl f rfl (d:=17) (by rw[E.size];decide) (.int qi (φ.n:Int)) (λu'=>?_) (λu'=>?_) λa4 t=>?_
  ·simp[go_sem,N,L.n]
  ·simp[go_sem,N]
  have F:=E.put t (.inr (.inr ⟨zE,zE⟩)) (λ_=>yJ);refine mW rfl rfl f rfl (d:=18) (by rw[F.size];decide) (.int qi 0) (λu'=>?_) (λu'=>?_) λa5 c=>?_
  ·simp[go_sem]
  ·simp[go_sem]
  have R:=F.put c (.inr (.inr ⟨zE,zE⟩)) (λ_=>yJ);refine oM (Ll (XC ?_));exact Y H a5 u0 R (by rw[c.other 7 zE,t.other 7 zE,s.other 7 zE,r.other 7 zE,p.other 7 zE];exact p7) (by rw[c.other 17 zE];exact t.same) c.same M
 simp only[lr9,nK,lr2,rX,f96,Agx];refine mV (qh (.stop rfl λu4 aa=>?_));have e:321+500*φ.n=(320+500*φ.n)+1:=zP
 rw[e];have Q:¬(H.mine φ.f.Wg\/H.sh φ.f.Wg):=λh=>(M.no _ h).2 rfl;exact .inr λT=>⟨_,ZT rfl rfl rfl f q7 u4,XL oL L.tw Q (λg u hk hg=>⟨a,40,y,q7,Z,hg⟩) u4 ⟨T,Off.refl _ _⟩⟩
end
end
section
open Go.ConcR (KK WgAt stA smA rd wr mk Payload DC0)
def BP(B:Bk)(ps:List Int)(ks:List Nat)(pl:Nat):Prop:=∀(V:BkV) (qa:Option aD) (pc k:Nat) w,k<B.L.length->aI w V B->aF w qa ps->cF tP 144 #[V.val B,.int qi (k:Int),.slice qa pl pc] w λe c=>∃v,e=rT v/\eu c (λb=>w.heap.size<=b) (B.hist k ks) v
structure uG (w:wD) (a:Act) (V:BkV) (B:Bk) (qa:Option aD) (pl pc bb pb ob C:Nat) (c0:Array vL) (ps:List Int):Prop where
 size:a.tmps.size=29
 fresh:∀j,Chg j->a.tmps[j]?.getD ud=ud
 p2:a.tmps[2]?.getD ud=.pointer (some ⟨bb,0,none⟩)
 p3:a.tmps[3]?.getD ud=.pointer (some ⟨pb,0,none⟩)
 p6:a.tmps[6]?.getD ud=.pointer (some ⟨ob,0,none⟩)
 book:∀(i:Nat) (x:vL),(V.row B)[i]? =some x->w.cell? ⟨bb,i,none⟩=some x
 ph:w.cell? ⟨pb,0,none⟩=some (.slice qa pl pc)
 out:w.cell? ⟨ob,0,none⟩=some (.slice (some ⟨C,0,none⟩) B.L.length B.L.length)
 row:w.heap[C]? =some (.cells c0 138 (0,0))
 rsz:c0.size=B.L.length
 at_:aI w V B
 nums:aF w qa ps
 za:aJ w V.za
 la:aJ w V.la
 ca:aJ w V.ca
 pa:aJ w V.pa
 rq:aJ w qa
 ne:∀x,(x=bb\/x=pb\/x=ob\/(∃y,(V.za=some y\/V.la=some y\/V.ca=some y\/V.pa=some y\/qa=some y)/\x=y.block))->x≠C
 n:0<B.L.length/\B.L.length<2147483647
 gl:tP.globals.size<=w.heap.size
section
variable {w:wD} {a:Act} {V:BkV} {B:Bk} {qa:Option aD} {pl pc bb pb ob C:Nat} {c0:Array vL} {ps:List Int} {ks:List Nat}
theorem uG.tp(L:uG w a V B qa pl pc bb pb ob C c0 ps)(τ:Nat->Question->Nat)(d:Nat):uG (w.tp τ d noJ) a V B qa pl pc bb pb ob C c0 ps:=by
 have f:∀{o:Option aD},aJ w o->aJ (w.tp τ d noJ) o:=λh x hx=>by
  obtain⟨c,t,z,e⟩:=h x hx
  grind [aP]
 refine⟨L.size,L.fresh,L.p2,L.p3,L.p6,λi x hx=>?_,?_,?_,by rw[aP];exact L.row,L.rsz,L.at_.map λb o v _ h=>?_,L.nums.map λb o v _ h=>?_,f L.za,f L.la,f L.ca,f L.pa,f L.rq,L.ne,L.n,by rw[iw];exact L.gl⟩
 ·rw[jQ _ _ _ dS];exact L.book i x hx
 ·rw[jQ _ _ _ dS];exact L.ph
 ·rw[jQ _ _ _ dS];exact L.out
 ·grind [jQ,dS]
 grind [jQ,dS]
structure ZV (Rr:Rl) (u:wD) (a':Act) (V:BkV) (B:Bk) (qa:Option aD) (pl pc bb pb ob C n:Nat) (V':BkV) (qa':Option aD) (bb' pb' ob' C':Nat) (c1:Array vL) (ps:List Int):Prop where
 p2:a'.tmps[2]?.getD ud=.pointer (some ⟨bb',0,none⟩)
 p3:a'.tmps[3]?.getD ud=.pointer (some ⟨pb',0,none⟩)
 p6:a'.tmps[6]?.getD ud=.pointer (some ⟨ob',0,none⟩)
 rb:Rr.rel bb bb'
 rp:Rr.rel pb pb'
 ro:Rr.rel ob ob'
 rC:Rr.rel C C'
 oC:Rr.own C'
 ren:V.Ren Rr V'
 rq:OAR Rr qa qa'
 book:∀(i:Nat) (x:vL),(V'.row B)[i]? =some x->u.cell? ⟨bb',i,none⟩=some x
 ph:u.cell? ⟨pb',0,none⟩=some (.slice qa' pl pc)
 out:u.cell? ⟨ob',0,none⟩=some (.slice (some ⟨C',0,none⟩) n n)
 row:u.heap[C']? =some (.cells c1 138 (0,0))
 rsz:c1.size=n
 at_:aI u V' B
 nums:aF u qa' ps
def uG.act{Rr:Rl}{u:wD}{a':Act}{F:fI->Bool}{K:Kd}(L:uG w a V B qa pl pc bb pb ob C c0 ps)(hv:VRs F Rr a.tmps a'.tmps)(d:WR tP F K Rr (w.tp u.tape u.drawn noJ) u):
 ∃V' t p s r J c1,ZV Rr u a' V B qa pl pc bb pb ob C B.L.length V' t p s r J c1 ps:=by
 have c:=L.tp u.tape u.drawn;have g:∀{j:Nat} {x:vL},a.tmps[j]?.getD ud=x->VR F Rr x (a'.tmps[j]?.getD ud):=λ{j x} h=>by
  have:=hv.getD j
  grind [Array.getD_eq_getD_getElem?]
 obtain⟨p,e2,f⟩:=EU (g L.p2);obtain⟨s,e3,rp⟩:=EU (g L.p3);obtain⟨r,e6,Z⟩:=EU (g L.p6);obtain⟨_,k0,v0⟩:=oO d f (c.book 0 _ rfl);obtain⟨_,k1,v1⟩:=oO d f (c.book 1 _ rfl);obtain⟨_,k2,v2⟩:=oO d f (c.book 2 _ rfl);obtain⟨_,k3,v3⟩:=oO d f (c.book 3 _ rfl);obtain⟨_,k4,v4⟩:=oO d f (c.book 4 _ rfl);obtain⟨_,k5,v5⟩:=oO d f (c.book 5 _ rfl);obtain⟨_,k6,v6⟩:=oO d f (c.book 6 _ rfl);obtain rfl:=ES v0;obtain rfl:=ES v1;obtain rfl:=ES v2;obtain⟨I,rfl,hza⟩:=uh v3;obtain⟨E,rfl,Q⟩:=uh v4;obtain⟨A,rfl,M⟩:=uh v5;obtain⟨G,rfl,R⟩:=uh v6;obtain⟨_,kp,vp⟩:=oO d rp c.ph;obtain⟨t,rfl,D⟩:=uh vp;obtain⟨_,ko,vo⟩:=oO d Z c.out;obtain⟨aa,rfl,N⟩:=uh vo;obtain⟨J,rfl,Y⟩:=OAR.some_inv N;obtain⟨y,y',X,q2,q3⟩:=d.obj Y;rw[c.row]at X
 cases X
 have e:V.Ren Rr ⟨I,E,A,G,V.zc,V.lc,V.cc,V.pc⟩:=⟨hza,Q,M,R,rfl,rfl,rfl,rfl⟩
 cases q3 with
 | @cells _ c1 _ _ _ hvs hz hz2=>
  have T:Rr.own J:=Classical.byContradiction λh=>by
   have h1:=hz2 h;have h2:=L.rsz;have h3:=L.n.1
   grind
  have:=hz T;subst this;refine⟨⟨I,E,A,G,V.zc,V.lc,V.cc,V.pc⟩,t,p,s,r,J,c1,e2,e3,e6,f,rp,Z,Y,T,e,D,λi x hx=>?_,kp,ko,q2,hvs.size.symm.trans L.rsz,c.at_.wr d e,c.nums.wr d D⟩
  match i,hx with
  |0,hx=>simp at hx;subst hx;exact k0
  |1,hx=>simp at hx;subst hx;exact k1
  |2,hx=>simp at hx;subst hx;exact k2
  |3,hx=>simp at hx;subst hx;exact k3
  |4,hx=>simp at hx;subst hx;exact k4
  |5,hx=>simp at hx;subst hx;exact k5
  |6,hx=>simp at hx;subst hx;exact k6
  |i+7,hx=>simp at hx
 |owned _ ho=>cases ho
end
end
end Go.Proofs.Y
namespace Go.Proofs.Y
open Go.RowKit Go.Tp Go.Meter Go.Maps
section
attribute [local go_sem] Oper.semAt_some
def Oc{w w':wD}(h:bX w.heap.size w w')(row:Option Nat):w.grownBy w' row:=⟨h.os,h.tape,h.output,h.size,λk c _=>h.block k c⟩
def ZW(V:BkV)(B:Bk)(hF:B.Fine)(k:Nat)(hk:k<B.L.length)(ks:List Nat)(au:∀i∈ks,i<B.P.length)(aR:ks.length<=1000)(qa:Option aD)(pc:Nat)(w:wD)(am:aI w V B)(hq:aF w qa (ks.map λi:Nat=>(i:Int))):
 cF tP 144 #[V.val B,.int qi (k:Int),.slice qa ks.length pc] w λe w'=>∃v,e=rT v/\eu w' (λb=>w.heap.size<=b) (B.hist k ks) v:=by
 refine Aj3 (n:=9).1 (callsIn_of_wp_marks func144 rfl trivial ?_);simp only[ntmps144,List.size_toArray,Ah9,List.length_nil,Nat.reduceAdd,Nat.reduceSub,Array.replicate_succ,Array.replicate_zero,List.push_toArray,List.append_toArray,List.nil_append,List.cons_append];have HF:=lH hF;have aG:=lH au;have Hat:=lH am;have Hq:=lH hq;clear hF au am hq;have ag:Hid (cF tP 135 #[V.val B] (((w.alloc (.cells (V.row B) 112)).alloc (.cells #[.int qi (k:Int)] 3)).alloc (.cells #[.slice qa ks.length pc] 28)) λe u=>∃m,e=rT (ctr V B m)/\w.heap.size+3<=m/\m<u.heap.size/\Hid (KnP u m (cnt B))/\Hid (bX w.heap.size w u)/\
  Cells u [(⟨w.heap.size,0,none⟩,.int qi B.day),(⟨w.heap.size,1,none⟩,.int qi B.D),(⟨w.heap.size,2,none⟩,.int qi B.U),(⟨w.heap.size,3,none⟩,.slice V.za B.Z.length V.zc),(⟨w.heap.size,4,none⟩,.slice V.la B.L.length V.lc),(⟨w.heap.size,5,none⟩,.slice V.ca B.C.length V.cc),(⟨w.heap.size,6,none⟩,.slice V.pa B.P.length V.pc),(⟨w.heap.size+1,0,none⟩,.int qi (k:Int)),(⟨w.heap.size+1+1,0,none⟩,.slice qa ks.length pc)]):=lH (by
  refine(LV V B _).mono ?_;rintro e u ⟨m,rfl,X,h2,h3⟩;have hc:Cells (((w.alloc (.cells (V.row B) 112)).alloc (.cells #[.int qi (k:Int)] 3)).alloc (.cells #[.slice qa ks.length pc] 28)) [(⟨w.heap.size,0,none⟩,.int qi B.day),(⟨w.heap.size,1,none⟩,.int qi B.D),(⟨w.heap.size,2,none⟩,.int qi B.U),(⟨w.heap.size,3,none⟩,.slice V.za B.Z.length V.zc),(⟨w.heap.size,4,none⟩,.slice V.la B.L.length V.lc),(⟨w.heap.size,5,none⟩,.slice V.ca B.C.length V.cc),(⟨w.heap.size,6,none⟩,.slice V.pa B.P.length V.pc),(⟨w.heap.size+1,0,none⟩,.int qi (k:Int)),(⟨w.heap.size+1+1,0,none⟩,.slice qa ks.length pc)]:=by simp only[Cells,and_true];go_simp
  have Y:bX w.heap.size w (((w.alloc (.cells (V.row B) 112)).alloc (.cells #[.int qi (k:Int)] 3)).alloc (.cells #[.slice qa ks.length pc] 28)):=(((Aj6 _ _).alloc (nR _) _).alloc yW _).alloc xL _;have hz:(((w.alloc (.cells (V.row B) 112)).alloc (.cells #[.int qi (k:Int)] 3)).alloc (.cells #[.slice qa ks.length pc] 28)).heap.size=w.heap.size+3:=yW
  generalize ((w.alloc (.cells (V.row B) 112)).alloc (.cells #[.int qi (k:Int)] 3)).alloc (.cells #[.slice qa ks.length pc] 28)=W3 at*;have r:∀b,b<W3.heap.size->u.heap[b]? =W3.heap[b]? :=λb Y=>h3.block b Y;simp only[Cells,and_true]at hc⊢;obtain⟨c0,c1,c2,c3,c4,c5,c6,c7,c8⟩:=hc;exact⟨m,rfl,zP,(aS.1 h2).1,lH (KnP.of_map h2 _),lH (Y.trans (h3.mono zP)),dD c0 λx=>r _ x,dD c1 λx=>r _ x,dD c2 λx=>r _ x,dD c3 λx=>r _ x,dD c4 λx=>r _ x,dD c5 λx=>r _ x,dD c6 λx=>r _ x,dD c7 λx=>r _ x,dD c8 λx=>r _ x⟩)
 have ah:=lH (ZG V B k)
 gi_wp2_with (first
  |(refine⟨trivial,?_⟩;gi_at_call 135;refine(Aj3.2 ag.out).mono ?_;rintro e u ⟨m,rfl,aZ,aY,aE,aA,hc⟩;obtain⟨d0,d1,d2,d3,d4,d5,d6,d7,d8,-⟩:=hc;have aT:=wBk u _ d8;have az:=wBk u _ d7;have ay:=wBk u _ d0;simp only at aT ay az)
  |(refine⟨trivial,?_⟩;gi_at_call 181;refine(Aj3.2 (ah.out _)).mono ?_;rintro e u2 ⟨rfl,rfl⟩))
 have a3:((((u.alloc (.cells #[.int qi B.day,.int qi B.D,.int qi B.U,.slice V.za B.Z.length V.zc,.slice V.la B.L.length V.lc,.slice V.ca B.C.length V.cc,.slice V.pa B.P.length V.pc,.map (some m)] 115)).alloc (.cells #[.slice none 0 0] 138)).alloc (.cells (V.row B) 112)).alloc (.cells #[.int qi (k:Int)] 3)).heap.size=u.heap.size+4:=yW
 have M:bX u.heap.size u ((((u.alloc (.cells #[.int qi B.day,.int qi B.D,.int qi B.U,.slice V.za B.Z.length V.zc,.slice V.la B.L.length V.lc,.slice V.ca B.C.length V.cc,.slice V.pa B.P.length V.pc,.map (some m)] 115)).alloc (.cells #[.slice none 0 0] 138)).alloc (.cells (V.row B) 112)).alloc (.cells #[.int qi (k:Int)] 3)):=((((Aj6 _ _).alloc (nR _) _).alloc yW _).alloc xL _).alloc xL _;have h8:((((u.alloc (.cells #[.int qi B.day,.int qi B.D,.int qi B.U,.slice V.za B.Z.length V.zc,.slice V.la B.L.length V.lc,.slice V.ca B.C.length V.cc,.slice V.pa B.P.length V.pc,.map (some m)] 115)).alloc (.cells #[.slice none 0 0] 138)).alloc (.cells (V.row B) 112)).alloc (.cells #[.int qi (k:Int)] 3)).heap[u.heap.size+1]? =some (.cells #[.slice none 0 0] 138 (0,0)):=by rw[Ai3 _ _ _ yW,Ai3 _ _ _ yW];have:=(MapKept.heap_alloc (u.alloc (.cells #[.int qi B.day,.int qi B.D,.int qi B.U,.slice V.za B.Z.length V.zc,.slice V.la B.L.length V.lc,.slice V.ca B.C.length V.cc,.slice V.pa B.P.length V.pc,.map (some m)] 115)) (.cells #[.slice none 0 0] 138)).1;rw[Ai2]at this;exact this
 have ap:Cells ((((u.alloc (.cells #[.int qi B.day,.int qi B.D,.int qi B.U,.slice V.za B.Z.length V.zc,.slice V.la B.L.length V.lc,.slice V.ca B.C.length V.cc,.slice V.pa B.P.length V.pc,.map (some m)] 115)).alloc (.cells #[.slice none 0 0] 138)).alloc (.cells (V.row B) 112)).alloc (.cells #[.int qi (k:Int)] 3)) [(⟨u.heap.size,0,none⟩,.int qi B.day),(⟨u.heap.size,1,none⟩,.int qi B.D),(⟨u.heap.size,2,none⟩,.int qi B.U),(⟨u.heap.size,3,none⟩,.slice V.za B.Z.length V.zc),(⟨u.heap.size,4,none⟩,.slice V.la B.L.length V.lc),(⟨u.heap.size,5,none⟩,.slice V.ca B.C.length V.cc),(⟨u.heap.size,6,none⟩,.slice V.pa B.P.length V.pc),(⟨u.heap.size,7,none⟩,.map (some m)),(⟨w.heap.size+1,0,none⟩,.int qi (k:Int)),(⟨w.heap.size+1+1,0,none⟩,.slice qa ks.length pc),
  (⟨u.heap.size+1+1,4,none⟩,.slice V.la B.L.length V.lc),(⟨u.heap.size+1+1,5,none⟩,.slice V.ca B.C.length V.cc),(⟨u.heap.size+1+1+1,0,none⟩,.int qi (k:Int))]:=by
  simp only[Cells,and_true];exact⟨by go_simp,by go_simp,by go_simp,by go_simp,by go_simp,by go_simp,by go_simp,by go_simp,dD d7 λx=>M.block _ x,dD d8 λx=>M.block _ x,by go_simp,by go_simp,by go_simp⟩
 generalize ((((u.alloc (.cells #[.int qi B.day,.int qi B.D,.int qi B.U,.slice V.za B.Z.length V.zc,.slice V.la B.L.length V.lc,.slice V.ca B.C.length V.cc,.slice V.pa B.P.length V.pc,.map (some m)] 115)).alloc (.cells #[.slice none 0 0] 138)).alloc (.cells (V.row B) 112)).alloc (.cells #[.int qi (k:Int)] 3))=W at*;have ax:∀b,b<w.heap.size->W.heap[b]? =w.heap[b]? :=λb Y=>(M.block b zP).trans (aA.out.block b Y);have af:KnP W m (cnt B):=aE.out.kept (Oc M none) yW;have aw:=N7 HF.out hk;have Q:m<W.heap.size:=zP
 have G:u.heap.size+1<W.heap.size:=zP
 have al:u.heap.size+1≠m:=zP
 have ar:∀W1,bX W.heap.size W W1->W1.heap.size=W.heap.size+2->HJ B k ks W m (u.heap.size+1) [] (λ_=>False) W1:=λW1 X h2=>by refine⟨zP,λb x _ _=>X.block b x,af.kept (Oc X none) yW,⟨.slice none 0 0,(X.block _ G).trans h8,jr.nil _ _,λg hg=>by simp[Aj2]at hg⟩,λ_ h=>h.elim⟩
 have ai:=lH ap;have ak:=lH ax;have aW:=lH af;have aC:=lH ar;have aJ:=lH aw;clear M h8 ap ax af ar aw d0 d1 d2 d3 d4 d5 d6 d7 d8;refine Zy (gf:=209) (lb:=#[.pointer (some ⟨u.heap.size+1+1,0,none⟩),.pointer (some ⟨u.heap.size+1+1+1,0,none⟩)]) B 3000 (λb=>b<W.heap.size/\b≠m/\b≠u.heap.size+1) (λb h=>h.1) (B.pasts (k:Int)) rfl (cf func209 rfl rfl) rfl (HJ B k ks W m (u.heap.size+1))
  (λq O O' U h ho=>h.less ho) (λq O U o h=>h.put Q G _) (λq O U o h=>h.alloc Q G o) (λq O U b j v h Y=>h.write Q G v Y) aC.out ?iter
  (λx D=>{tmps:=#[V.val B,.int qi (k:Int),.slice qa ks.length pc,.pointer (some ⟨w.heap.size,0,none⟩),.pointer (some ⟨w.heap.size+1,0,none⟩),.pointer (some ⟨w.heap.size+1+1,0,none⟩),.slice none 0 0,.pointer (some ⟨u.heap.size,0,none⟩),.pointer (some ⟨u.heap.size+1,0,none⟩),.pointer (some ⟨D,0,none⟩),V.val B,ctr V B m,V.val B,.int qi (k:Int),.func (.func 209) #[] #[.pointer (some ⟨u.heap.size+1+1,0,none⟩),.pointer (some ⟨u.heap.size+1+1+1,0,none⟩)],bZ x,ud,ud,ud,ud,ud,ud,ud,ud,ud,ud],defers:=[]}) ?assign ?body ?done
 case iter=>
  intro J R U hU aN hj;have hr:∀b,b<w.heap.size->b<W.heap.size/\b≠m/\b≠u.heap.size+1:=λb Y=>⟨zP,zP,zP⟩;have ad:=ai.out;obtain⟨-, -, -, -, -, -, -, -, -, -,e4,e5,ek,-⟩:=ad;have E:∀b,b<W.heap.size->U.heap[b]? =W.heap[b]? :=λb Y=>aN.block b Y;have d:∀{b o:Nat} {v:vL},w.cell? ⟨b,o,none⟩=some v->U.cell? ⟨b,o,none⟩=some v:=λ{b o v} h=>dD h λx=>(E b (by simp only at x;omega)).trans (ak.out b x);refine Zx B HF.out (W.heap.size+1) 3000 _ _ J R k (u.heap.size+1+1) (u.heap.size+1+1+1) V.ca V.la V.cc V.lc hk [] (by simpa using aJ.out) U hj (λb h=>by have:=h.1;omega) (λ_ h=>h.elim) ⟨zP,zP,zP⟩ ⟨zP,zP,zP⟩ (dD e4 λx=>E _ x) (dD e5 λx=>E _ x) (dD ek λx=>E _ x) (λi z hz=>?_) (λi z hz=>?_)
  ·obtain⟨b,o,e,_,_,x2,x3⟩:=Hat.out.L i z hz
   exact⟨b,o,e,hr b (wBk w _ x2),d x2,d x3,trivial⟩
  obtain⟨b,o,e,x0,x1,x2,x3,x4,x5,x6⟩:=Hat.out.C i z hz
  exact⟨b,o,e,hr b (wBk w _ x2),d x0,d x1,d x2,d x3,d x4,d x5,d x6,trivial⟩
 case assign=>
  intro l x U K hK;simp only[dQ]at hK
  gi_wp2
  exact hK
 case body=>
  intro l q x O D U hI a2 hx aa aX;have ao:=(aS.1 aa).1;obtain⟨v,y,t,-⟩:=id hI.row;have f:∀{b o:Nat} {v:vL},W.cell? ⟨b,o,none⟩=some v->b≠m->b≠u.heap.size+1->U.cell? ⟨b,o,none⟩=some v:=λh X h2=>dD h λx=>hI.old _ x X h2;have ad:=ai.out;obtain⟨c0,c1,c2,c3,c4,c5,c6,c7,c8,c9,-, -, -, -⟩:=ad;have n1:u.heap.size≠m:=zP
  have n2:u.heap.size≠u.heap.size+1:=zP
  have e0:=f c0 n1 n2;have e1:=f c1 n1 n2;have e2:=f c2 n1 n2;have e3:=f c3 n1 n2;have e4:=f c4 n1 n2;have e5:=f c5 n1 n2;have e6:=f c6 n1 n2;have e7:=f c7 n1 n2;have e8:=f c8 zP zP;have e9:=f c9 zP zP;have ae:∀{b o:Nat} {v:vL},w.cell? ⟨b,o,none⟩=some v->U.cell? ⟨b,o,none⟩=some v:=λ{b o v} h=>by have hlt:=wBk w _ h;simp only at hlt;exact dD h λ_=>(hI.old b zP zP zP).trans (ak.out b hlt)
  have ab:∀g,v.ownBlock=some g->W.heap.size+2<=g:=λg e=>(t.1.lt g e).1;have Z:Hid (∀s o,U.grownBy s (some m)->jr (s.alloc o) (W.heap.size+2) (q.filter λp=>B.right k p ks) v):=lH λs o hg=>t.kept λg aQ=>by have X:=t.1.lt g aQ;have h2:=hg.size;rw[Ai3 _ _ _ zP,hg.block g X.2 xL]
  have H8:Hid (∀s o w',U.grownBy s (some m)->(s.alloc o).grownBy w' v.ownBlock->w'.cell? ⟨u.heap.size+1,0,none⟩=some v/\w'.frozen? ⟨u.heap.size+1,0,none⟩=false):=lH λs o w' hg N=>by
   have h2:=hg.size;have:w'.heap[u.heap.size+1]? =some (.cells #[v] 138 (0,0)):=by rw[N.block _ (by rw[Ai2];omega) (λe=>by have:=ab _ e.symm;omega),Ai3 _ _ _ zP,hg.block _ zP xL];exact y
   exact⟨by simp[Aeq,this],by simp[Aem,this]⟩
  have A:Hid (cF tP 182 #[ctr V B m,.int qi (k:Int),bZ x,.slice qa ks.length pc] U λe s=>e=rT (.bool (B.right k x ks))/\Hid (KnP s m (cnt B))/\Hid (U.grownBy s (some m))/\s.cell? ⟨u.heap.size+1,0,none⟩=some v/\
   Cells s [(⟨D,0,none⟩,.int qi x.start),(⟨D,1,none⟩,.bool (x.c 0).made),(⟨D,2,none⟩,.int qi (x.c 0).ans),(⟨D,3,none⟩,.int qi (x.c 0).clr),(⟨D,4,none⟩,.bool (x.c 1).made),(⟨D,5,none⟩,.int qi (x.c 1).ans),(⟨D,6,none⟩,.int qi (x.c 1).clr),(⟨D,7,none⟩,.bool (x.c 2).made),(⟨D,8,none⟩,.int qi (x.c 2).ans),(⟨D,9,none⟩,.int qi (x.c 2).clr)]):=lH (by
   refine(c182 V B HF.out m k ks qa pc x U (Hat.out.map λb o v _ hc=>ae hc) hI.kn hx hk aG.out (Hq.out.map λb o v _ hc=>ae hc) aR).mono ?_;rintro e s ⟨rfl,X,h2⟩;have an:iI s D x:=(h2.block D ao xL).trans aa;refine⟨rfl,lH X,lH h2,?_,an.cells⟩;have:s.heap[u.heap.size+1]? =some (.cells #[v] 138 (0,0)):=(h2.block _ zP xL).trans y;simp[Aeq,this])
  have aj:Hid ((q.filter λp=>B.right k p ks).length<=3000):=lH (Agd (List.length_filter_le _ _) zP);have aO:=aa.cells;obtain⟨r0,r1,r2,r3,r4,r5,r6,r7,r8,r9,-⟩:=aO;have HI:=lH hI;have aL:=lH y;have aV:=lH hk;clear hI y t f ae ab aa hx hk c0 c1 c2 c3 c4 c5 c6 c7 c8 c9
  cases hr:B.right k x ks with
  |false=>
   rw[hr]at A;have Hr:=lH hr;clear hr
   gi_wp2_with (refine⟨trivial,rfl,?_⟩;refine(CallsIn.inRound l (Aj3.2 A.out)).mono ?_;rintro e s ⟨rfl,I,F,aP,aq⟩)
   exact HI.out.skip Q G al zP F.out I.out Hr.out
  |true=>
   rw[hr]at A;have Hr:=lH hr;clear hr
   gi_wp2_with (first
    |(refine⟨trivial,rfl,?_⟩;refine(CallsIn.inRound l (Aj3.2 A.out)).mono ?_;rintro e s ⟨rfl,I,F,aP,aq⟩;obtain⟨s0,s1,s2,s3,s4,s5,s6,s7,s8,s9,-⟩:=aq)
    |(gi_at_builtin;refine ZF _ rfl _ _ rfl (W.heap.size+2) (q.filter λp=>B.right k p ks) v rfl (Z.out _ _ F.out) ⟨_,0,none⟩ 1 x rfl (by rw[yF];exact World.news_of_block (Aj1 _ _)) aj.out (by have:=F.out.size;simp;omega) ?_;intro ng aU w' T N av;obtain⟨z0,z1⟩:=H8.out _ _ _ F.out N;have ac:=lH T;have aB:=lH N;have aH:=lH av;clear T N av))
   exact HI.out.add Q G al zP F.out I.out Hr.out aL.out ac.out aB.out aH.out
 case done=>
  intro O U h hd;obtain⟨v,y,t,-⟩:=id h.row;have c8:U.cell? ⟨u.heap.size+1,0,none⟩=some v:=by simp[Aeq,y]
  have Hd:=lH hd;have Z:=lH t;clear hd t h y
  gi_wp2
  refine⟨yW,.inl ⟨_,_,rfl,run_takeDeferred Hd.out,?_⟩⟩;refine⟨v,?_,v,rfl,?_⟩
  ·simp[results,results144,go_sem]
  have hp:=Z.out.kept (w':=U.putObj W.heap.size (.deferred none)) λg hg=>by have:=(Z.out.1.lt g hg).1;exact Ajm zP
  have hh:=hp.hist;unfold Bk.hist
  rcases hh with hh|⟨x1,ob,aM,c,x2,x3,x4⟩
  ·exact .inl hh
  exact .inr ⟨x1,ob,aM,c,x2,zP,x4⟩
def ZX{B:Bk}(f:B.Fine){ks:List Nat}(e:∀i∈ks,i<B.P.length)(d:ks.length<=1000):BP B (ks.map λi:Nat=>(i:Int)) ks ks.length:=
 λV qa pc k w g c p=>ZW V B f k g ks e d qa pc w c p
end
end Go.Proofs.Y
