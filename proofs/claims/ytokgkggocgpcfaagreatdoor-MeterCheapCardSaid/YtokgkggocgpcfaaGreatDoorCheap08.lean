/- Part of a proof; no conditions. -/
import Derived.Test.YtokgkggocgpcfaaGreatDoorCheap07
import Derived.Lib.MinMax
import Derived.Shelf.Sort.Plain
import Derived.Shelf.Slices.CompactI
import Derived.Shelf.Slices.In.SortNone
import Derived.Sort.OwnSortedInts
import Derived.Conc.DeferLaws
import Derived.KernelRfl
import Derived.RangeFuncNested
import Derived.RangeFuncBound
import Derived.RangeFuncKeeps
import Derived.RangeFuncRecord
import Derived.Shelf.RegionOpen
import Derived.OwnWalkIn
import Derived.TacticsInMore
import Derived.LoopNIn
import Derived.LoopIn
import Derived.Laws.EntriesVeiled
open Array renaming getElem?_eq_some_iff->aS,all_eq_true_iff_forall_mem->Ae0,replicate->Afc
open List renaming getElem?_eq_getElem->lG,eq_nil_of_length_eq_zero->Aje,setIfInBounds_toArray->Ail,mem_cons_self->Aah,set_cons_zero->Ais,set_cons_succ->Ait,getElem_mem->Ah7,all_eq_true->Ah8,length_cons->Ah9,range'_succ->Ajh,map_append->Aib,range_succ->Aeg,replicate->Aji,mem_cons->Ab3,range->Aes
open Go.Region.linearise renaming go->Ajf
open Nat renaming le_refl->nR,lt_of_lt_of_le->Ajg,le_trans->Agd,zero_le->Aih,mul_one->Ajk
open Go.Region renaming wanted->Ag2,ready->Aig,binds->Aif
open Go.Sem renaming runT_fst->Ajj
open Go.Lib renaming hid->lH,compact->Ajl
open Go.stepG renaming exec->Afu
open Go.Frame renaming «at»->Ahr
open Go renaming Addr->aD,Calls->cF,Frame->fR,Goroutine->gO,Program->pQ,Question->qS,Value->vL,World->wD,undef->ud
open Go.RowKit renaming Below->bX
open Go.IntKind renaming i64->qi
open Go.Ending renaming returned->rT
open Go.Proofs.Tryz renaming prog->tP
open Go.World renaming block_lt_of_cell?->wBk
open Go.Proofs.Tryz
set_option maxRecDepth 100000
set_option maxHeartbeats 4000000
set_option linter.all false
namespace Go.Proofs.Y
open Go.RowKit Go.Tp Go.Meter
def Y1(V:BkV)(B:Bk)(w:wD)(J:aI w V B)(ap:B.L.length<1000)(hn:B.P.length<=1000)(Z:∀p∈B.P,p.shows.size<=1000000):cF tP 118 #[V.val B] w λe A=>e=rT (.int qi (jo B))/\bX w.heap.size w A:=by
 obtain⟨za,la,ca,pa,zc,lc,cc,pc⟩:=V;have Hat:=lH J;have ad:=lH Z;clear J Z;by_cases h1:5<B.P.length
 ·have G:(B.P.length:Int)>5:=zP
  go_enter func118,ntmps118;go_wp2;go_ret;exact⟨by simp[jo,h1],(Below.refl _ _).alloc (nR _) _⟩
 have Ha:Hid (jo B=fF B (B.P.drop 0)):=lH (by simp[jo,h1]);have G:¬(B.P.length:Int)>5:=zP
 go_enter func118,ntmps118;go_wp2;clear h1 G
 go_loopw [3] (λi wr=>∃k:Nat,k<=B.P.length/\i=.int qi (k:Int)/\Hid (jo B=fF B (B.P.drop k))/\Hid (bX w.heap.size w wr)/\Hid (Cells wr (aB w.heap.size ⟨za,la,ca,pa,zc,lc,cc,pc⟩ B))) (λi _=>B.P.length-(intOf i).toNat)
 case atStart=>exact⟨0,Aih _,rfl,Ha,lH ((Below.refl _ _).alloc (nR _) _),lH (by simp only[aB,Cells,and_true];go_simp)⟩
 case round=>
  obtain⟨k,hk,rfl,Hz,Hb,Hc⟩:=hrel;have af:=Hc.out;obtain⟨b0,b1,b2,b3,b4,b5,b6,-⟩:=af;have hww:=wBk wr _ b0;simp only at hww;by_cases hlt:k<B.P.length
  ·have hx:B.P[k]? =some B.P[k]:=lG hlt;have ak:=ad.out _ (Ah7 hlt);obtain⟨b,o,hza,y0,y1,y2⟩:=(Hat.out.below Hb.out (nR _)).P k _ hx;simp only at hza;subst hza;have hat2:=MS (B:=B) hx;have hbw:=wBk wr _ y0;simp only at hbw;generalize B.P[k]=z at*;obtain⟨pl,pt,g⟩:=z;simp only at y0 y1 y2 ak;have Hat2:=lH hat2;clear hx hat2
   cases h2:btw pl 0 ((B.L.length:Int)-1)with
   |false=>
    have r:Hid (fF B (B.P.drop k)=6):=lH (by rw[Hat2.out];simp[jm,h2])
    go_wp2_with (first|(go_at_call 43;refine(b43 _ _ _ _).mono ?_;rintro e A ⟨rfl,rfl⟩)|(go_at_call 84;refine(c84 _ _).mono ?_;rintro e A ⟨rfl,rfl⟩))
    go_ret;exact⟨by rw[Hz.out,r.out];rfl,Hb.out.alloc Hb.out.size _⟩
   |true=>
    cases D:btw pt 0 200 with
    |false=>
     have r:Hid (fF B (B.P.drop k)=1):=lH (by rw[Hat2.out];simp[jm,h2,D])
     go_wp2_with (first|(go_at_call 43;refine(b43 _ _ _ _).mono ?_;rw[h2];rintro e A ⟨rfl,rfl⟩)|(go_at_call 84;refine(c84 _ _).mono ?_;rw[D];rintro e A ⟨rfl,rfl⟩))
     go_ret;exact⟨by rw[Hz.out,r.out];rfl,Hb.out.alloc Hb.out.size _⟩
    |true=>
     go_upto_region 11 with(first|(go_at_call 43;refine(b43 _ _ _ _).mono ?_;rw[h2];rintro e A ⟨rfl,rfl⟩)|(go_at_call 84;refine(c84 _ _).mono ?_;rw[D];rintro e A ⟨rfl,rfl⟩))
     have aq:=bJ h2;obtain⟨m,rfl⟩:∃m:Nat,pl=(m:Int):=⟨pl.toNat,zP⟩;have aj:m<B.L.length:=zP
     have y:B.L[m]? =some B.L[m]:=lG aj;have T:B.lineAt (m:Int)=B.L[m]:=by unfold Bk.lineAt;rw[Int.toNat_natCast,y];rfl
     obtain⟨lb,lo,U,x0,x1,x2,x3⟩:=(Hat.out.below Hb.out (nR _)).L m _ y;simp only at U;subst U;generalize B.L[m]=xl at*;obtain⟨xn,xd,ar,au⟩:=xl;simp only at x0 x1 x2 x3;have ai:=wBk wr _ x1;simp only at ai;have s:=lH T;clear y T x0 x2 x3;by_cases h4:(g.size:Int)=xd
     ·have I:((g.size:Int) !=xd)=false:=by simp[h4]
      go_quiet (fail)
      go_wp2;obtain⟨wA,al⟩:∃wA,wA=wr:=⟨wr,rfl⟩;subst al;obtain⟨C,l⟩:∃C,C=(wA.alloc (.cells #[.int qi (m:Int),.int qi pt,.string g] 44)).drewN nq:=⟨_,rfl⟩;have K:bX w.heap.size w C:=by rw[l];exact below_drewN (Hb.out.alloc Hb.out.size _) _
      have O:Cells C (aB w.heap.size ⟨za,some ⟨lb,lo,none⟩,ca,some ⟨b,o,none⟩,zc,lc,cc,pc⟩ B):=by rw[l];simp only[aB,Cells,and_true];go_simp
      have ag:C.cell? ⟨wA.heap.size,2,none⟩=some (.string g):=by rw[l];go_simp
      rw[<-l];have q:=lH (And.intro K O);have F:Hid ((g.size:Int)=xd):=lH h4;clear K O b0 b1 b2 b3 b4 b5 b6 y0 y1 y2 x1 h4 I l;obtain⟨nb,X⟩:∃nb,nb=wA.heap.size:=⟨_,rfl⟩;rw[<-X]at ag⊢;clear X
      go_loopw [5] (λi wq=>∃j:Nat,j<=g.size/\i=.int qi (j:Int)/\C=wq/\Hid (∀(i:Nat) (h:i<g.size),i<j->gW ((g[i]'h).toNat:Int)=true)) (λi _=>g.size-(intOf i).toNat)
      case atStart=>exact⟨0,Aih _,rfl,rfl,lH λi h hi=>zP⟩
      case round=>
       obtain⟨j,hj,rfl,rfl,Hd⟩:=hrel;by_cases hjl:j<g.size
       ·have ah:(j:Int)<(g.size:Int):=zP
        have M:=Bh hjl;have am:=lH M;have Y:gW ((g[j]'hjl).toNat:Int)=(byteAt g j==63||btw (byteAt g j) 48 57):=by rw[M];rfl
        have ac:=lH Y;clear Y;have HN:Hid (gW ((g[j]'hjl).toNat:Int)=true->∀(i:Nat) (h:i<g.size),i<j+1->gW ((g[i]'h).toNat:Int)=true):=lH λh i hi an=>by
         by_cases e:i=j
         ·subst e;exact h
         exact Hd.out i hi zP
        have HX:Hid (gW ((g[j]'hjl).toNat:Int)=false->fF B (B.P.drop k)=3):=lH λh=>by
         have x:nC g=false:=by
          cases e:nC g with
          |false=>rfl
          |true=>have:=Fz hjl e;rw[h]at this;cases this
         rw[Hat2.out];simp[jm,h2,D,s.out,F.out,x]
        rw[ac.out]at HN HX;generalize byteAt g j=c at*
        cases h6:btw c 48 57 with
        |true=>
         go_wp2_with (go_at_call 156;refine(c156 _ _).mono ?_;rw[h6];rintro e w1 ⟨rfl,rfl⟩)
         go_roundw
         case rel=>exact⟨j+1,zP,by go_num,trivial,lH (HN.out (by rw[h6];simp))⟩
         case measure=>simp[intOf];omega
        |false=>
         by_cases E:c=63
         ·have ae:(c != 63)=false:=by simp[E]
          have aa:=lH (HN.out (by rw[h6,E];rfl));clear E
          go_wp2_with (go_at_call 156;refine(c156 _ _).mono ?_;rw[h6];rintro e w1 ⟨rfl,rfl⟩)
          go_roundw
          case rel=>exact⟨j+1,zP,by go_num,trivial,aa⟩
          case measure=>simp[intOf];omega
         have ae:(c != 63)=true:=by simp[E]
         have ab:=lH (HX.out (by rw[h6];simp[E]));clear E
         go_wp2_with (go_at_call 156;refine(c156 _ _).mono ?_;rw[h6];rintro e w1 ⟨rfl,rfl⟩)
         go_ret;exact⟨by rw[Hz.out,ab.out];rfl,q.out.1⟩
       have ao:j=g.size:=zP
       have ah:¬(j:Int)<(g.size:Int):=zP
       have r:Hid (fF B (B.P.drop k)=fF B (B.P.drop (k+1))):=lH (by have x:nC g=true:=MR λi hi=>Hd.out i hi zP;rw[Hat2.out,if_pos (by simp[jm,h2,D,s.out,F.out,x])])
       go_wp2;go_roundw
       case rel=>exact⟨k+1,zP,by go_num,lH (by rw[Hz.out,r.out]),lH q.out.1,lH q.out.2⟩
       case measure=>simp[intOf];omega
     have I:((g.size:Int) !=xd)=true:=by simp[h4]
     have r:Hid (fF B (B.P.drop k)=3):=lH (by rw[Hat2.out];simp[jm,h2,D,s.out,h4])
     go_quiet (fail)
     go_wp2;go_ret;exact⟨by rw[Hz.out,r.out];rfl,below_drewN (Hb.out.alloc Hb.out.size _) _⟩
  have hke:B.P.length<=k:=zP
  go_wp2;go_ret;exact⟨by rw[Hz.out,MV hke];rfl,Hb.out⟩
def Y2(B:Bk):aV B=if kE B=0 then(if ji B=0 then(if jl B=0 then(if iH B=0 then jo B else iH B)else jl B)else ji B)else kE B:=by simp only[aV,vV,alK];by_cases e:kE B=0<;>by_cases h2:ji B=0<;>by_cases g:jl B=0<;>by_cases h4:iH B=0<;>by_cases h5:jo B=0<;>simp[e,h2,g,h4,h5]
def Y3{w W:wD}{V:BkV}{B:Bk}{l:List (aD×vL)}(m:dO w V B)(e:bX w.heap.size w W)(h:Cells W l):Hid (∀u,bX W.heap.size W u->Hid (bX W.heap.size W u)/\Hid (bX w.heap.size w u)/\Hid (dO u V B)/\Cells u l)/\Hid (bX W.heap.size W W)/\Hid (bX w.heap.size w W)/\Hid (dO W V B):=
 ⟨lH λu g=>have q:=e.trans (g.mono e.size);⟨lH g,lH q,lH (m.below q (nR _)),gV g (nR _) h⟩,lH (.refl _ _),lH e,lH (m.below e (nR _))⟩
def c45(V:BkV)(B:Bk)(w:wD)(C:dO w V B)(s:∀x∈B.L,x.name.size<=1000000):cF tP 45 #[V.val B] w λe D=>e=rT (.int qi (aV B))/\bX w.heap.size w D:=by
 obtain⟨za,la,q,pa,zc,lc,cc,pc⟩:=V;have K:=lH C;have y:=lH s;have I:=lH (Y2 B);clear C s;have hc:Cells (w.alloc (.cells #[.int qi B.day,.int qi B.D,.int qi B.U,.slice za B.Z.length zc,.slice la B.L.length lc,.slice q B.C.length cc,.slice pa B.P.length pc] 27)) (aB w.heap.size ⟨za,la,q,pa,zc,lc,cc,pc⟩ B):=by simp only[aB,Cells,and_true];go_simp
 obtain⟨HF,l,m,g⟩:=Y3 K.out ((Below.refl _ _).alloc (nR _) _) hc;clear hc
 cases T:btw B.day 1 60;rotate_left
 cases U:btw B.D 0 B.day;rotate_left
 cases X:btw B.U B.D B.day;rotate_left
 by_cases a1:ji B=0;have E:=lH a1;by_cases M:jl B=0;have F:=lH M;by_cases O:iH B=0;have G:=lH O
 all_goals
  go_enter func45,ntmps45
  go_wp2_with (first|(go_at_call 43;refine(b43 _ _ _ _).mono ?_;(first|rw[T]|rw[U]|rw[X]);rintro e D ⟨rfl,rfl⟩)|((first|(go_at_call 115;refine(X6 ⟨za,la,q,pa,zc,lc,cc,pc⟩ B _ g.out.at_ (by have:=g.out.nz;omega)).mono ?_;try rw[E.out])|(go_at_call 116;refine(c116 ⟨za,la,q,pa,zc,lc,cc,pc⟩ B _ g.out.at_ (by have:=g.out.nl;omega) y.out).mono ?_;try rw[F.out])|(go_at_call 117;refine(c117 ⟨za,la,q,pa,zc,lc,cc,pc⟩ B _ g.out.at_ g.out.nz g.out.nl (by have:=g.out.nc;omega)).mono ?_;try rw[G.out])|(go_at_call 118;refine(Y1 ⟨za,la,q,pa,zc,lc,cc,pc⟩ B _ g.out.at_ g.out.nl (by have:=g.out.np;omega) g.out.ps).mono ?_));rintro e w5 ⟨rfl,r⟩;have J:=HF.out _ (l.out.trans (r.mono l.out.size));clear r l m g;obtain⟨l,m,g,A⟩:=J;obtain⟨Y,Z,m2,m3,m4,m5,m6,-⟩:=A))
  go_ret;exact⟨by rw[I.out];simp[kE, *],m.out⟩
def nG(f:Int)(l:List Int):Int×Int:=(l.foldl (λa x=>min a x) f,l.foldl (λa x=>max a x) f)
def Y4(f:Int)(l:List Int)(x:Int):nG f (l++[x])=(min (nG f l).1 x,max (nG f l).2 x):=by simp[nG]
def jU(l:List Int):Int×Int:=nG (l.headD 0) l
def c157(f:Int)(l:List Int)(s:Option aD)(I:Nat)(w:wD)(F:aF w s l)(T:l.length<=1000000):cF tP 157 #[.int qi f,.slice s l.length I] w λe M=>e=rT (.tuple #[.int qi (nG f l).1,.int qi (nG f l).2])/\w=M:=by
 obtain⟨E,m⟩:∃E:Nat->Int×Int,E=λk=>nG f (l.take k):=⟨_,rfl⟩;have g:Hid (E 0=(f,f)):=lH (by rw[m];rfl);have G:Hid (∀k,k<l.length->∃b o x,s=some ⟨b,o,none⟩/\w.cell? ⟨b,o+k,none⟩=some (.int qi x)/\E (k+1)=(min (E k).1 x,max (E k).2 x)):=lH λk r=>by obtain⟨b,o,C,D⟩:=F k _ (lG r);refine⟨b,o,_,C,D,?_⟩;rw[m];simp only;rw[List.take_add_one,lG r];exact Y4 _ _ _
 have q:Hid (E l.length=nG f l):=lH (by rw[m];simp);clear F m;generalize l.length=n at*;go_enter func157,ntmps157;go_wp2
 go_loopw [4,5,12] (λJ K y wr=>∃k:Nat,k<=n/\y=.int qi (k:Int)/\J=.int qi (E k).1/\K=.int qi (E k).2/\wr=w) (λ_ _ i _=>n-(intOf i).toNat)
 case atStart=>exact⟨0,Aih _,rfl,by rw[g.out],by rw[g.out],rfl⟩
 case round=>
  obtain⟨k,r,rfl,rfl,rfl,rfl⟩:=hrel;by_cases hlt:k<n
  ·obtain⟨b,o,x,rfl,O,hx⟩:=G.out k hlt;generalize E k=e at*;obtain⟨C,D⟩:=e;have A:=lH hx;clear hx;go_wp2;go_roundw
   case rel=>exact⟨k+1,zP,by go_num,by rw[A.out],by rw[A.out],by first|rfl|trivial⟩
   case measure=>simp[intOf];omega
  have hke:k=n:=zP
  subst hke;rw[q.out];go_wp2
  go_ret2
  exact⟨rfl,rfl⟩
def Ny(l:List Int)(A:Option aD)(C:Nat)(w:wD)(r:aF w A l)(y:l≠[])(J:l.length<=1000000):cF tP 120 #[.slice A l.length C] w λe K=>e=rT (.agg #[.int qi (jU l).1,.int qi (jU l).2])/\bX w.heap.size w K:=by
 obtain⟨x,g,rfl⟩:∃x g,l=x::g:=by cases l with
  |nil=>exact absurd rfl y
  |cons x g=>exact⟨x,g,rfl⟩
 obtain⟨b,o,rfl,s⟩:=r 0 x rfl;simp only[Nat.add_zero]at s;have q:=wBk w _ s;simp only at q;have I:bX w.heap.size w (w.alloc (.cells #[.int qi 0,.int qi 0] 32)):=(Below.refl _ _).alloc (nR _) _;have m:=lH (c157 x (x::g) _ C (w.alloc (.cells #[.int qi 0,.int qi 0] 32)) (r.below I (nR _)) J);have D:Hid (jU (x::g)=nG x (x::g)):=lH rfl;have hn:0<(x::g).length:=yW
 clear r y;generalize x::g=L at*;generalize nG x L=E at*;obtain⟨F,G⟩:=E;go_enter func120,ntmps120
 go_wp2_with (go_at_call 157;refine m.out.mono ?_;rintro e u ⟨rfl,rfl⟩)
 refine bodyPost_ret (v:=.agg #[.int qi F,.int qi G]) (by simp[results,results120,go_sem]) rfl ⟨by rw[D.out],?_⟩;exact(Below.refl _ _).alloc (nR _) _
end Go.Proofs.Y
namespace Go.Proofs.Y
open Go.RowKit Go.Tp Go.Meter Go.Shelf
def Y5:Go.Shelf.Ren:=⟨λ|189=>138|125=>167|257=>166|128=>203|129=>204|294=>194|295=>195|296=>196|297=>197|298=>198|299=>199|216=>200|300=>201|301=>202|328=>214|329=>215|330=>216|331=>217|332=>218|215=>219|343=>220|n=>n,λ|28=>28|3=>3|46=>216|0=>0|51=>187|53=>184|4=>4|183=>240|182=>239|131=>213|5=>5|9=>9|218=>260|222=>263|228=>265|229=>202|n=>n,λ|n=>n⟩
def lays189:Lays.n189 tP Y5:={mixed:=by kernel_rfl,f125:=func167.trans (congrArg some xD),f128:=func203.trans (congrArg some xD),f129:=func204.trans (congrArg some xD),f189:=func138.trans (congrArg some xD),f215:=func219.trans (congrArg some xD),f216:=func200.trans (congrArg some xD),f257:=func166.trans (congrArg some xD),f294:=func194.trans (congrArg some xD),f295:=func195.trans (congrArg some xD),f296:=func196.trans (congrArg some xD),f297:=func197.trans (congrArg some xD),f298:=func198.trans (congrArg some xD),f299:=func199.trans (congrArg some xD),f300:=func201.trans (congrArg some xD),f301:=func202.trans (congrArg some xD),f328:=func214.trans (congrArg some xD),f329:=func215.trans (congrArg some xD),f330:=func216.trans (congrArg some xD),f331:=func217.trans (congrArg some xD),f332:=func218.trans (congrArg some xD),f343:=func220.trans (congrArg some xD),t0:=underlying0,a0:=isAgg0,z0:=sizeOf0,v0:=zeroValue0,t3:=underlying3,a3:=isAgg3,z3:=sizeOf3,v3:=zeroValue3,t4:=underlying4,a4:=isAgg4,z4:=sizeOf4,v4:=zeroValue4,t5:=underlying5,a5:=isAgg5,z5:=sizeOf5,v5:=zeroValue5,t9:=underlying9,a9:=isAgg9,z9:=sizeOf9,v9:=zeroValue9,t28:=underlying28,a28:=isAgg28,z28:=sizeOf28,v28:=zeroValue28,t46:=underlying216,a46:=isAgg216,z46:=sizeOf216,v46:=zeroValue216,t51:=underlying187,a51:=isAgg187,z51:=sizeOf187,v51:=zeroValue187,t53:=underlying184,a53:=isAgg184,z53:=sizeOf184,v53:=zeroValue184,t131:=underlying213,a131:=isAgg213,z131:=sizeOf213,v131:=zeroValue213,t182:=underlying239,a182:=isAgg239,z182:=sizeOf239,v182:=zeroValue239,t183:=underlying240,a183:=isAgg240,z183:=sizeOf240,v183:=zeroValue240,t218:=underlying260,a218:=isAgg260,z218:=sizeOf260,v218:=zeroValue260,t222:=underlying263,a222:=isAgg263,z222:=sizeOf263,v222:=zeroValue263,t228:=underlying265,a228:=isAgg265,z228:=sizeOf265,v228:=zeroValue265,t229:=underlying202,a229:=isAgg202,z229:=sizeOf202,v229:=zeroValue202}
def Y6:Go.Shelf.Ren:=⟨λ|20=>139|n=>n,λ|22=>28|3=>3|4=>4|0=>0|n=>n,λ|n=>n⟩
def Nz:Lays2.n20 tP Y6:={mixed:=by kernel_rfl,f20:=func139.trans (congrArg some xD),t0:=underlying0,a0:=isAgg0,z0:=sizeOf0,v0:=zeroValue0,t3:=underlying3,a3:=isAgg3,z3:=sizeOf3,v3:=zeroValue3,t4:=underlying4,a4:=isAgg4,z4:=sizeOf4,v4:=zeroValue4,t22:=underlying28,a22:=isAgg28,z22:=sizeOf28,v22:=zeroValue28,i3:=by kernel_rfl}
open Go.Sort in
def Y7{w:wD}{base g e n k:Nat}{xs:List vL}(h:w.ownsRow base 3 1 (.slice (some ⟨g,0,none⟩) n e) n xs)(s:k<=n):w.ownsRow base 3 1 (.slice (some ⟨g,0,none⟩) k e) k (xs.take k):=by
 rcases h.2 with⟨q,_⟩|⟨y,m,l,x,r,h2,A,h4,h5,h6⟩
 ·cases q
 cases x
 have hx:=h.1;exact⟨by simp;omega,.inr ⟨g,e,l,rfl,r,h2,zP,h4,h5,by rw[<-h6,List.take_take,Ajk,Ajk,Nat.min_eq_left s]⟩⟩
def dN(l:List Int):List Int:=Ajl (l.mergeSort λx y=>decide (x<=y))
def rP{w u u':wD}{q r:Option Nat}(h:w.grownBy u q)(g:u.grownBy u' r)(hr:∀j,r=some j->w.heap.size<=j):w.grownBy u' q:=
 ⟨g.os.trans h.os,g.tape.trans h.tape,g.output.trans h.output,Agd h.size g.size,λk m l=>by rw[g.block k (Ajg m h.size) λe=>by have:=hr k e.symm;omega];exact h.block k m l⟩
def FM(e:List Int):(Ajl e).length<=e.length:=by unfold Ajl Lib.compactUpTo;rw[List.length_map];exact Agd (List.length_filter_le _ _) yW
def Y8:dN []=[]:=by have:=FM ([].mergeSort λx y:Int=>decide (x<=y));exact Aje (by simpa[dN]using this)
open Go.Sort in
def c91(xs:List Int)(base:Nat)(v:vL)(w:wD)(h:w.ownsRow base 3 1 v xs.length (ints xs))(Y:xs.length<=1000000):
 cF tP 91 #[v] w λe w'=>∃v',e=rT v'/\w'.ownsRow base 3 1 v' (dN xs).length (ints (dN xs))/\w.grownBy w' v.ownBlock:=by
 rcases h.2 with⟨rfl,V⟩|⟨g,m,J,rfl,h1,h2,h3,h4,h5,h6⟩
 ·have hx:xs=[]:=Aje V;subst hx;have G:=lH (Any.slices_Sort_int_none lays189 none 0 w);have H2:=lH (Any.slices_Compact_int_empty Nz none 0 w);have hg:w.grownBy w none:=⟨rfl,rfl,rfl,nR _,λ_ _ _=>rfl⟩;clear h V Y;go_enter func91,ntmps91
  go_wp2_with (first|(go_at_call 138;refine G.out.mono ?_;rintro e u ⟨rfl,rfl⟩)|(go_at_call 139;refine H2.out.mono ?_;rintro e u ⟨rfl,rfl⟩))
  go_ret;exact⟨_,rfl,by rw[Y8];exact World.ownsRow_nil _ _ _ _,hg⟩
 have hlt:g<w.heap.size:=(aS.1 h2).1;have X:=holds_of_blockI (ss:=xs) h2 (by have:=h6;rwa [Ajk]at this);have G:=lH (Any.slices_Sort_int lays189 g 0 m xs w X hlt zP);obtain⟨ss,r⟩:∃ss,ss=xs.mergeSort λx y=>decide (x<=y):=⟨_,rfl⟩;have F:ss.length=xs.length:=by rw[r];simp
 have HO:Hid (dN xs=Ajl ss):=lH (by rw[r];rfl);have HE:Hid (∀u,(∃n os,u=grow (putRow (Value.int qi) (Sort.ahead w n) g 0 ss.toArray) os)->w.grownBy u (some g)/\∃l,u.heap[g]? =some (.cells l 3 (0,0))/\l.size=m/\l.toList.take ss.length=ints ss):=lH λu ⟨n,os,e⟩=>by subst e;exact⟨grownBy_sortedI _,_,heap_sortedI _ h2,by simp[putCells];omega,take_putCellsI J ss zP⟩
 have HC:Hid (∀u,(∃l,u.heap[g]? =some (.cells l 3 (0,0))/\l.size=m/\l.toList.take ss.length=ints ss)->cF tP 139 #[.slice (some ⟨g,0,none⟩) xs.length m] u λe u'=>e=rT (.slice (some ⟨g,0,none⟩) (Ajl ss).length m)/\u.grownBy u' (some g)/\u'.ownsRow base 3 1 (.slice (some ⟨g,0,none⟩) (Ajl ss).length m) (Ajl ss).length (ints (Ajl ss))):=lH λu ⟨l,U,e2,e3⟩=>by
  have K:=holds_of_blockI (ss:=ss) U e3;have M:=FM ss;rw[<-F];refine(Any.slices_Compact_int Nz g 0 m ss u K zP zP).mono ?_;rintro e u' ⟨rfl,q,rfl⟩;have O:(Ajl ss++Aji (ss.length-(Ajl ss).length) 0).length=ss.length:=by simp;omega
  have T:putRow (Value.int qi) (Sort.ahead u q) g 0 (Ajl ss++Aji (ss.length-(Ajl ss).length) 0).toArray=grow (putRow (Value.int qi) (Sort.ahead u q) g 0 (Ajl ss++Aji (ss.length-(Ajl ss).length) 0).toArray) #[]:=by simp[grow];rfl
  refine⟨rfl,by rw[T];exact grownBy_sortedI _,?_⟩;have:=ownsRow_sortedI (n:=q) (os:=#[]) (e:=3) (ss:=ss) O h1 U zP h4 (by rw[Ajk];exact e2);rw[<-T]at this;have:=Y7 this M;have e4:((Ajl ss++Aji (ss.length-(Ajl ss).length) 0).map (Value.int qi)).take (Ajl ss).length=ints (Ajl ss):=by rw[Aib,List.take_left' yW];rfl
  rwa [e4]at this
 rw[<-r]at G;generalize hn:xs.length=n at*;clear r F X h2 h3 h4 h5 h6 Y h hn;go_enter func91,ntmps91
 go_wp2_with (first|(go_at_call 138;refine G.out.mono ?_;rintro e u ⟨rfl,Z⟩;obtain⟨C,s⟩:=HE.out u Z;have I:=lH C;have A:=lH s;clear Z C s)|(go_at_call 139;refine(HC.out _ A.out).mono ?_;rintro e u2 ⟨rfl,D,E⟩;have HF:=lH (And.intro D E);clear D E))
 go_ret;exact⟨_,rfl,by rw[HO.out];exact HF.out.2,cZ I.out HF.out.1⟩
end Go.Proofs.Y
namespace Go.Tp
open Go.Conc Go.ConcN Go.RowKit
variable {n:Nat} {S:Nat->Prop} {cs:List fR} {gs:Array gO} {u:wD} {t:Trace} {Rr:Rl} {R':vL->wD->Prop} {c:Code}
section
variable (P:pQ) [Team P]
def NC(b:fR)(cs:List fR)(Rr:Rl)(w:wD)(v:vL)(g:gO):Prop:=
 ∃T l e fn,g=G {b.at ⟨l,[]⟩ e with mode:=.returning} cs/\VRs (tF P) Rr T l/\P.funcs[b.fn]? =some fn/\∀τ d,(results fn T).run P (w.tp τ d noJ)=.ok v (w.tp τ d noJ)
def Out(S:Nat->Prop)(b:fR)(cs:List fR)(gs:Array gO)(u:wD)(sl:Option (Nat×Nat))(t:Trace)(Rr:Rl)(R:vL->wD->Prop):Prop:=
 ∃(N:Nat) (g:Array gO) (e:Nat->Prop) (R':Rl) (v:vL) (r:gO) (l u':wD) (m:Option (Nat×Nat)) (q:Trace) (s:Nat->Nat),
  runNT P N (crowd gs u sl) t=(.next (crowd g u' m),q)/\g[0]? =some r/\NC P b cs R' l v r/\R v l/\Started l/\Mod P S e R' l u'/\(Rr.le R'/\Sm S u u')/\Leavers P q g s/\Past (bW e) u'.heap.size q
def GLb(b:fR)(it:List Item)(R:vL->wD->Prop)(a:Act)(w:wD):Prop:=
 ∀(S e:Nat->Prop) (Rr:Rl) (a':Act) (u:wD) (gs:Array gO) (g:Option (Nat×Nat)) (t:Trace) (q:Nat->Nat) (cs:List fR),VRs (tF P) Rr a.tmps a'.tmps->a'.defers=[]->Started w->Mod P S e Rr w u->
  gs[0]? =some (G (b.at a' it) cs)->Leavers P t gs q->Past (bW e) u.heap.size t->Out P S b cs gs u g t Rr R
def bT(f:FuncId)(args:Array vL)(w:wD)(R:vL->wD->Prop):Prop:=
 ∀(S g:Nat->Prop) (Rr:Rl) (e:Array vL) (u:wD) (gs:Array gO) (l:Option (Nat×Nat)) (t:Trace) (q:Nat->Nat) (cs:List fR),VRs (tF P) Rr args e->Started w->Mod P S g Rr w u->
  gs[0]? =some (G (Frame.enter P f e .normal) cs)->Leavers P t gs q->Past (bW g) u.heap.size t->Out P S (Go.Conc.base f) cs gs u l t Rr R
end
section
variable {P:pQ} [Team P] {b:fR} {R:vL->wD->Prop} {a:Act} {w:wD} {it k:List Item} {ops:Array Oper} {i:Nat} {rest:List Nat} {o:Oper}
def Out.ahead{gs':Array gO}{u':wD}{sl sl':Option (Nat×Nat)}{q:Trace}{R':Rl}{N:Nat}(hr:runNT P N (crowd gs u sl) t=(.next (crowd gs' u' sl'),q))(l:Rr.le R')(I:Sm S u u')(h:Out P S b cs gs' u' sl' q R' R):Out P S b cs gs u sl t Rr R:=by obtain⟨r,e,x,s,v,A,M,u2,m,K,J,C,h2,D,h5,h6,E,⟨F,y⟩,G,g⟩:=h;exact⟨N+r,e,x,s,v,A,M,u2,m,K,J,LK hr C,h2,D,h5,h6,E,⟨l.trans F,I.trans y⟩,G,g⟩
theorem Out.mono{sl:Option (Nat×Nat)}(h:Out P S b cs gs u sl t Rr R)(k:∀v w,R v w->R' v w):Out P S b cs gs u sl t Rr R':=by obtain⟨l,e,q,m,v,r,C,u2,g,A,y,s,h2,x,h5,h6⟩:=h;exact⟨l,e,q,m,v,r,C,u2,g,A,y,s,h2,x,k _ _ h5,h6⟩
theorem GLb.mono(h:GLb P b it R a w)(k:∀v w,R v w->R' v w):GLb P b it R' a w:=λS e Rr a' u gs g t q cs l m r s x y A=>(h S e Rr a' u gs g t q cs l m r s x y A).mono k
theorem bT.mono{f:FuncId}{args:Array vL}(h:bT P f args w R)(k:∀v w,R v w->R' v w):bT P f args w R':=λS e Rr a' u gs g t q cs l m r s x y=>(h S e Rr a' u gs g t q cs l m r s x y).mono k
theorem Y9{τ:Nat->qS->Nat}{d:Nat}(h:GLb P b it R a (w.tp τ d noJ)):GLb P b it R a w:=λS e Rr a' u gs g t q cs l m r s=>h S e Rr a' u gs g t q cs l m (fC r τ d) (Mod.tp.2 s)
theorem wo{τ:Nat->qS->Nat}{d:Nat}(h:GLb P b it R a w):GLb P b it R a (w.tp τ d noJ):=λS e Rr a' u gs g t q cs l m r s=>h S e Rr a' u gs g t q cs l m (by have:=fC r w.tape w.drawn;rwa [fB,jP]at this) (Mod.tp.1 s)
def AtG(P:pQ)[Team P](S:Nat->Prop)(b:fR)(cs:List fR)(Rr:Rl)(R:vL->wD->Prop)(H:Hold)(g:gO)(u:wD):Prop:=
 ∃(l:Rl) (a1 e:Act) (m:List Item) (r:wD),H=⟨l.own,S⟩/\g=G (b.at e m) cs/\VRs (tF P) l a1.tmps e.tmps/\e.defers=[]/\Started r/\WR P (tF P) (tK P) l (r.tp u.tape u.drawn noJ) u/\(∀b q,l.rel b q->l.own q\/S q)/\Rr.le l/\GLb P b m R a1 r
def ND{dead:Nat->Prop}{g:gO}{sl:Option (Nat×Nat)}{q:Nat->Nat}(hr:aH P true (AtG P S b cs Rr R) (⟨Rr.own,S⟩,g,u))(y:Mod P S dead Rr w u)(M:gs[0]? =some g)(U:Leavers P t gs q)(V:Past (bW dead) u.heap.size t):Out P S b cs gs u sl t Rr R:=by obtain⟨N,m,H',g',u',A,t',q',O,_,T,_,⟨D,a1,l,aa,w1,rfl,rfl,E,F,G,I,J,C,K⟩,X,Z,r,s⟩:=xR (dead:=dead) hr u gs sl t q (Off.refl _ _) y.live M U V;obtain⟨Y,e⟩:=y.went Z;exact Out.ahead O C Y (K S dead D l u' m A t' q' cs E F G ⟨I,J,λx hx=>C.rel _ _ (y.gl x hx),X,e⟩ T r s)
def yx(h:∀(S:Nat->Prop) (Rr:Rl) (a':Act) (u:wD) (cs:List fR),VRs (tF P) Rr a.tmps a'.tmps->a'.defers=[]->Started w->WR P (tF P) (tK P) Rr (w.tp u.tape u.drawn noJ) u->(∀b g,Rr.rel b g->Rr.own g\/S g)->(∀x,tG P x=true->Rr.rel x x)->aH P true (AtG P S b cs Rr R) (⟨Rr.own,S⟩,G (b.at a' it) cs,u)):GLb P b it R a w:=
 λS _ Rr a' u _ _ _ _ cs l m q e r s y=>ND (h S Rr a' u cs l m q e.wr e.own e.gl) e r s y
def lW{e:List Item}(x:∀a' cs u',VRs (tF P) (⟨λ_ _=>True,λ_ _=>True,λ_=>True⟩:Rl) a.tmps a'.tmps->stepG P true (G (b.at a' it) cs) u'=.go (G (b.at a' e) cs) u' #[])(h:GLb P b e R a w):GLb P b it R a w:=
 yx λS Rr a' u cs l C D E m _=>aH.step' rfl λu' y=>by have s:=m;refine⟨(⟨Rr.own,S⟩,G (b.at a' e) cs,u'),.stop rfl λu2 g=>⟨Rr,a,a',e,w,rfl,rfl,l,C,D,E.off s (y.trans g),m,.refl _,h⟩,#[],x a' cs u' ⟨l.size,λi v A q r=>(l.get i v A q r).mono ⟨λ_ _ _=>trivial,λ_ _ _=>trivial,λ_ _=>trivial⟩⟩,.still _ _,yW⟩
def aQ{x y:Code}(h:GLb P b (.code x:: .code y::k) R a w):GLb P b (.code (.seq x y)::k) R a w:=lW (λ_ _ _ _=>by simp[G,stepG,Afu,Ahr]) h
def rQ(h:GLb P b k R a w):GLb P b (.code .skip::k) R a w:=lW (λ_ _ _ _=>by simp[G,stepG,Afu,Ahr]) h
def Za(h:GLb P b k R a w):GLb P b (.inBlock n::k) R a w:=lW (λ_ _ _ _=>by simp[G,stepG,Afu,Ahr]) h
def FN(h:GLb P b (.code c:: .inBlock n::k) R a w):GLb P b (.code (.block n c)::k) R a w:=lW (λ_ _ _ _=>by simp[G,stepG,Afu,Ahr]) h
def NG(h:GLb P b (.code c:: .inLoop c::k) R a w):GLb P b (.code (.loop c)::k) R a w:=lW (λ_ _ _ _=>by simp[G,stepG,Afu,Ahr]) h
def Zb(h:GLb P b (.code c:: .inLoop c::k) R a w):GLb P b (.inLoop c::k) R a w:=lW (λ_ _ _ _=>by simp[G,stepG,Afu,Ahr]) h
def Zc{e:List Item}(he:exitTo n k=some e)(h:GLb P b e R a w):GLb P b (.code (.exit n)::k) R a w:=lW (λ_ _ _ _=>by simp[G,stepG,Afu,Ahr,he]) h
def bK(h:GLb P b (.inRegion ops (Aes ops.size)::k) R a w):GLb P b (.code (.region n ops false)::k) R a w:=lW (λ_ _ _ _=>by simp[G,stepG,Afu,Ahr]) h
def bM(h:GLb P b k R a w):GLb P b (.inRegion ops []::k) R a w:=lW (λ_ _ _ _=>by simp[G,stepG,Afu,Ahr]) h
def Zd{c:Operand}{x y:Code}(t:Bool)(hc:a.eval c=.bool t)(hn:∀g,c≠.global g)(l:∀f,c≠.func f)(h:GLb P b (.code (if t then x else y)::k) R a w):GLb P b (.code (.cond c x y)::k) R a w:=by
 refine lW (λa' cs u' m=>?_) h;have e:a'.eval c=.bool t:=by
  cases c with
  |tmp j=>
   have q:=m.getD j
   grind [Act.eval,ET]
  |const v=>exact hc
  |global g=>exact absurd rfl (hn g)
  |func f=>exact absurd rfl (l f)
 rw[stepG_cond e]
end
end Go.Tp
namespace Go.Tp
open Go.Conc Go.RowKit
variable {listed:Array Bool} {i:Nat}
section
variable {P:pQ} {mn:Bool} {Stop:Hold->gO->wD->Prop} {H:Hold} {u:wD} {b:fR} {a:Act} {k:List Item} {cs:List fR} {ops:Array Oper}
def NH(e:P.follows .mixedOrders=true){id:Nat}(h:∀t u',Off H u u'->aH P mn Stop (H,G (b.at a (.inRegion ops (Ajf .any ops ops.size t (Afc ops.size false) [])::k)) cs,u')):aH P mn Stop (H,G (b.at a (.code (.region id ops true)::k)) cs,u):=
 aH.step' rfl λu' g=>by refine⟨(H,_,{u' with drawn:=u'.drawn+1}),h (u'.tape u'.drawn (.order b.fn id)) _ (g.trans (Off.at H u' _)),#[],?_,⟨nR _,λ_ _ _=>rfl,λ_ x=>.inl x,λ_ x=>x,rfl,rfl,rfl,rfl⟩,yW⟩;simp[G,stepG,Afu,Ahr,choose,Sem.run,Question.forced,Question.cut,Region.schedule,Region.linearise,e]
def FP(ops:Array Oper)(fuel t:Nat)(listed:Array Bool):(Aig .any ops listed=[]/\Ajf .any ops (fuel+1) t listed []=[])\/
 ∃i∈Aig .any ops listed,∃e,Ajf .any ops (fuel+1) t listed []=i::Ajf .any ops fuel e (listed.setIfInBounds i true) []:=by
 simp only[Ajf]
 change (_/\(match (Aig .any ops listed)[t % (Aig .any ops listed).length]? with
  |some i=>Ajf .any ops fuel (t /(Aig .any ops listed).length) (listed.setIfInBounds i true) [i]
  |none=>[].reverse)=[])\/∃i∈_,∃e,(match (Aig .any ops listed)[t % (Aig .any ops listed).length]? with
  |some i=>Ajf .any ops fuel (t /(Aig .any ops listed).length) (listed.setIfInBounds i true) [i]
  |none=>[].reverse)=_
 cases g:(Aig .any ops listed)[t % (Aig .any ops listed).length]? with
 |none=>
  left;refine⟨?_,rfl⟩
  cases l:Aig .any ops listed with
  |nil=>rfl
  |cons x xs=>grind [Nat.mod_lt]
 |some i=>grind [List.mem_of_getElem?,linearise_go_acc,List.reverse_singleton,List.singleton_append]
def Ze(h:i∈Aig .any ops listed):i<ops.size/\listed.getD i true=false/\∀o,ops[i]? =some o->∀e∈o.after,Aif .any e=true->listed.getD e.on false=true:=by
 unfold Aig at h;rw[List.mem_filter]at h;obtain⟨g,h2⟩:=h;simp only[Bool.and_eq_true,Bool.not_eq_true']at h2
 grind [Ae0]
theorem Zf{o:Oper}(h1:ops[i]? =some o)(h2:listed.getD i true=false)(h3:∀e∈o.after,Aif .any e=true->listed.getD e.on false=true):i∈Aig .any ops listed:=by
 unfold Aig
 grind
def qp(ops:Array Oper)(ds:List (List Nat)):Bool:=(Aes ops.size).all λi=>match ops[i]?,ds[i]? with
 |some o,some d=>o.after.all (λe=> !Region.binds .any e||d.contains e.on)&&d.all λj=>o.after.any λe=>Aif .any e&&e.on==j
 |_,_=>false
theorem wu{ds:List (List Nat)}(l:qp ops ds=true):i∈Aig .any ops listed↔i<ops.size/\listed.getD i true=false/\∀j∈(ds[i]?).getD [],listed.getD j false=true:=by
 have q:∀{i:Nat},i<ops.size->∃o d,ops[i]? =some o/\ds[i]? =some d/\(∀e∈o.after,Aif .any e=true->e.on∈d)/\∀j∈d,∃e∈o.after,Aif .any e=true/\e.on=j:=λ{i} r=>by
  unfold qp at l;rw[Ah8]at l;have h:=l i (List.mem_range.2 r)
  cases m:ops[i]? with
  |none=>rw[m]at h;cases h
  |some o=>
   cases g:ds[i]? with
   |none=>rw[m,g]at h;cases h
   |some d=>
    rw[m,g]at h;simp only[Bool.and_eq_true,Ae0,Ah8,Bool.or_eq_true,Bool.not_eq_true',List.contains_eq_mem,decide_eq_true_eq]at h
    grind
 constructor
 ·intro h;obtain⟨s,h2,x⟩:=Ze h
  grind
 grind [Zf]
end
end Go.Tp
namespace Go.Proofs.Y
open Go.RowKit Go.Tp Go.Meter Go.Conc Go.ConcN Go.Conc.Lib Go.ConcR.Gen Go.ConcN.Gen
variable {i:Nat} {L:Array Bool}
section
open Go.ConcR (KK WgAt stA smA rd wr mk Payload DC0)
instance payM:Payload:=⟨138⟩
noncomputable def BH:Code:=f142.body.getD .skip
noncomputable def kL:Array Oper:=match BH with
 |.seq _ (.region _ ops _)=>ops
 |_=>#[]
def FQ:qp kL [[],[],[],[],[],[2,3,4],[0,1,2,3,4,5],[0,1,2,3,4,5,6]]=true:=xD
def FT:kL.size=8:=xD
def yA(e bb ib pb ob:Nat):Deferred:={target:=.fn (.func 142) #[.pointer (some ⟨e,0,none⟩),.pointer (some ⟨bb,0,none⟩),.pointer (some ⟨ib,0,none⟩),.pointer (some ⟨pb,0,none⟩),.pointer (some ⟨ob,0,none⟩)],args:=#[]}
structure wz (S:Nat->Prop) (u0:wD) (V:BkV) (B:Bk) (k C n:Nat) (pv:Option aD) (pl pc:Nat) (bb ib pb ob:Nat):Prop where
 book:∀(i:Nat) (x:vL),(V.row B)[i]? =some x->u0.cell? ⟨bb,i,none⟩=some x
 ix:u0.cell? ⟨ib,0,none⟩=some (.int qi (k:Int))
 ph:u0.cell? ⟨pb,0,none⟩=some (.slice pv pl pc)
 out:u0.cell? ⟨ob,0,none⟩=some (.slice (some ⟨C,0,none⟩) n n)
 held:∀b∈[bb,ib,pb,ob],S b
 rows:∀b,S b->∃c t z,u0.heap[b]? =some (.cells c t z)
 za:∀x,V.za=some x->S x.block
 la:∀x,V.la=some x->S x.block
 ca:∀x,V.ca=some x->S x.block
 pa:∀x,V.pa=some x->S x.block
 pv:∀x,pv=some x->S x.block
structure KSt (φ:Ph) (S:Nat->Prop) (u0:wD) (bv pv:vL) (k bb ib pb ob:Nat) (L:Array Bool) (a:Act) (H:Hold) (u:wD):Prop where
 size:a.tmps.size=12
 lsz:L.size=8
 defers:a.defers=[dcall 143 #[.pointer (some ⟨φ.f.Wg,0,none⟩)]]
 p1:a.tmps[1]?.getD ud=.pointer (some ⟨bb,0,none⟩)
 p2:a.tmps[2]?.getD ud=.pointer (some ⟨ib,0,none⟩)
 p3:a.tmps[3]?.getD ud=.pointer (some ⟨pb,0,none⟩)
 p4:a.tmps[4]?.getD ud=.pointer (some ⟨ob,0,none⟩)
 l0:L.getD 0 false=true->a.tmps[5]?.getD ud=.slice (some ⟨φ.f.C,0,none⟩) φ.n φ.n
 l1:L.getD 1 false=true->a.tmps[6]?.getD ud=.int qi (k:Int)
 l2:L.getD 2 false=true->a.tmps[7]?.getD ud=bv
 l3:L.getD 3 false=true->a.tmps[8]?.getD ud=.int qi (k:Int)
 l4:L.getD 4 false=true->a.tmps[9]?.getD ud=pv
 l6:L.getD 6 false=true->a.tmps[11]?.getD ud=.pointer (some ⟨φ.f.C,k,none⟩)
 l7:L.getD 7 false=false
 sh:H.sh=S
 off:Off ⟨λ_=>False,S⟩ u0 u
 before:L.getD 5 false=false->H.mine=λ_=>False
 after:L.getD 5 false=true->φ.val k (a.tmps[10]?.getD ud) H.mine u
def cnt1(b:Bool):Nat:=if b then 0 else 1
def cntF(L:Array Bool):Nat:=cnt1 (L.getD 0 true)+cnt1 (L.getD 1 true)+cnt1 (L.getD 2 true)+cnt1 (L.getD 3 true)+cnt1 (L.getD 4 true)+cnt1 (L.getD 5 true)+cnt1 (L.getD 6 true)+cnt1 (L.getD 7 true)
def FU(d:Bool)(h:i<L.size):(L.setIfInBounds i true).getD i d=true:=by simp[h]
def getD_set_ne{j:Nat}(d:Bool)(h:i≠j):(L.setIfInBounds i true).getD j d=L.getD j d:=by simp_all
def NI(h:i<L.size)(d d':Bool):L.getD i d=L.getD i d':=by simp[h]
def Zg(y:L.size=8)(x:i<8)(h:L.getD i true=false):cntF (L.setIfInBounds i true)+1=cntF L:=by
 have a:∀j,cnt1 ((L.setIfInBounds i true).getD j true)+(if i=j then 1 else 0)=cnt1 (L.getD j true):=λj=>by
  by_cases e:i=j
  ·subst e;rw[FU true zP,h];simp[cnt1]
  simp_all
 have a0:=a 0;have a1:=a 1;have g:=a 2;have l:=a 3;have m:=a 4;have q:=a 5;have r:=a 6;have s:=a 7;unfold cntF
 grind
variable {φ:Ph} {S:Nat->Prop} {u0:wD} {bv pv:vL} {k bb ib pb ob:Nat} {L:Array Bool} {a a':Act} {H:Hold} {u u':wD}
theorem KSt.put{d:Nat}{v:vL}(h:KSt φ S u0 bv pv k bb ib pb ob L a H u)(G:i<8)(h5:i≠5)(E:i≠7)(F:d=i+5)(m:Put a a' d v)(r:i=0->v=.slice (some ⟨φ.f.C,0,none⟩) φ.n φ.n)(s:i=1->v=.int qi (k:Int))(x:i=2->v=bv)(y:i=3->v=.int qi (k:Int))(A:i=4->v=pv)(C:i=6->v=.pointer (some ⟨φ.f.C,k,none⟩)):
 KSt φ S u0 bv pv k bb ib pb ob (L.setIfInBounds i true) a' H u:=by
 have q:=h.lsz;subst F;have o:∀j,j≠i+5->a'.tmps[j]?.getD ud=a.tmps[j]?.getD ud:=m.other;have g:∀(j:Nat) (w:vL),(i=j->v=w)->(L.getD j false=true->a.tmps[j+5]?.getD ud=w)->((L.setIfInBounds i true).getD j false=true->a'.tmps[j+5]?.getD ud=w):=λj w l h2 D=>by
  by_cases e:i=j
  ·subst e;rw[m.same,l rfl]
  rw[getD_set_ne false e]at D
  grind
 refine⟨m.size.trans h.size,by simpa using q,m.defers.trans h.defers,?_,?_,?_,?_,g 0 _ r h.l0,g 1 _ s h.l1,g 2 _ x h.l2,g 3 _ y h.l3,g 4 _ A h.l4,g 6 _ C h.l6,?_,h.sh,h.off,λl=>h.before ?_,λl=>?_⟩
 ·rw[o 1 zP];exact h.p1
 ·rw[o 2 zP];exact h.p2
 ·rw[o 3 zP];exact h.p3
 ·rw[o 4 zP];exact h.p4
 ·rw[getD_set_ne false E];exact h.l7
 ·simp_all
 rw[getD_set_ne false h5]at l;rw[o 10 zP];exact h.after l
def KSt.off'(h:KSt φ S u0 bv pv k bb ib pb ob L a H u)(e:∀v m u u',(∀b,m b->b<u.heap.size->u'.heap[b]? =u.heap[b]?)->φ.val k v m u->φ.val k v m u')(g:Off H u u'):KSt φ S u0 bv pv k bb ib pb ob L a H u':=
 ⟨h.size,h.lsz,h.defers,h.p1,h.p2,h.p3,h.p4,h.l0,h.l1,h.l2,h.l3,h.l4,h.l6,h.l7,h.sh,h.off.trans ⟨g.size,λb l q=>g.keep b l (.inr (q.elim (λx=>x.elim) λx=>by rw[h.sh];exact x)),g.same⟩,h.before,λh5=>e _ _ _ _ (λb q l=>g.keep b l (.inl q)) (h.after h5)⟩
end
end Go.Proofs.Y
namespace Go.Tp
open Go.Conc Go.ConcN Go.RowKit
variable {fn:Func} {u w:wD} {d N:Nat} {a a':Act} {v:vL} {f:FuncId} {ats:Array TypeId} {Ks:wD->Prop} {Rr:Rl} {Q:vL->wD->Prop} {c:Code} {τ:Nat->qS->Nat}
section
variable {P:pQ} [Team P] {b:fR} {R:vL->wD->Prop} {a:Act} {w:wD} {it k:List Item} {ops:Array Oper} {i:Nat} {rest:List Nat} {o:Oper}
def qw{F:FuncId->Bool}{Gl:Nat->Bool}(h:VRs F Rr a.tmps a'.tmps)(e:∀x,Gl x=true->Rr.rel x x):ER F Gl Rr a.eval a'.eval:=by
 have:=Ak (F:=F) (Gl:=Gl) (R:=Rr) (fr:=(default:fR).at a []) (fr':=(default:fR).at a' []) h e
 grind [Frame.eval_at']
def oV{F:FuncId->Bool}(h:VRs F Rr a.tmps a'.tmps){v':vL}(e:VR F Rr v v')(d:Option Tmp):VRs F Rr (a.put d v).tmps (a'.put d v').tmps:=by
 cases d with
 |none=>exact h
 |some d=>exact h.set e d
theorem put_defers(a:Act)(d:Option Tmp)(v:vL):(a.put d v).defers=a.defers:=by cases d<;>rfl
def NJ{S:Next->wD->Prop}(ho:ops[i]? =some o)(hS:opS P (tF P) (tG P) o=true)(ad:eY true o=true)(Z:∀c x,o.op=.call c->c.callee≠.value x)(hw:Ag2 o (yielded ops a.tmps)=true)(hk:b.kind≠.early)(hr:∀τ d,∃n m,(execOp a.eval o).run P (w.tp τ d noJ)=.ok n m/\S n m)(hn:∀n m,S n m->(∃v,n=.value v)\/n=.skip)(h:∀n v m,S n m->(n=.value v\/(n=.skip/\v=ud))->GLb P b (.inRegion ops rest::k) R (a.put o.dst v) m):GLb P b (.inRegion ops (i::rest)::k) R a w:=by
 refine yx λS Rr a' u cs x1 x2 x3 x4 x5 x6=>aH.step' rfl λu' ab=>?_;have X:=x5;have af:=x4.off X ab;obtain⟨n,m,e1,s1⟩:=hr u'.tape u'.drawn;have ae:=fC x3 u'.tape u'.drawn
 cases F:(execOp a.eval o).runT P (w.tp u'.tape u'.drawn noJ) #[]with
 |mk r es0=>
  have er:r=.ok n m:=by
   have:=Ajj P (execOp a.eval o) (w.tp u'.tape u'.drawn noJ) #[]
   grind
  subst er;obtain⟨_,I⟩:=vK (xB (Team.good (P:=P)).funcs (Team.good (P:=P)).methods a.eval (λ_=>rfl) o (λg T=>by obtain⟨c,x,fn,p,q,h1,h2,_⟩:=T;exact absurd h2 (Z c x h1)) ad) ae F
  obtain⟨y,n',u1,ag,l2,e2,M,aa,l,ai⟩:=Ah (K:=tK P) Team.fc.ok hS (qw x1 x6) Rr (.refl _) _ u' af #[] _ m es0 F #[];have C:∀b D,y.rel b D->y.own D\/S D:=λb D O=>by
   rcases l.new b D O with V|V
   ·exact(x5 _ _ V).imp (l2.own _) id
   exact .inl ((l.own D).2 (.inr ⟨V,(M.dom b D O).2⟩))
  have s:Does ⟨Rr.own,S⟩ ⟨y.own,S⟩ u' u1:=⟨l.size,λb O hm=>l.keep b O hm,λb=>(l.own b).1,λb h=>(l.own b).2 (.inl h),rfl,l.same⟩;have J:Ag2 o (yielded ops a'.tmps)=true:=by rw[<-Am (ops:=ops) x1];exact hw
  have A:(execOp a'.eval o).run P u'=.ok n' u1:=by rw[<-Ajj P _ u' #[],e2]
  have ah:(execOp a'.eval o).events P u' #[]=ag:=by simp_all
  have T:∀e∈listed P b.fn a' o u',EvO ⟨y.own,S⟩ e:=λe he=>by grind [mem_listed,Au]
  have E:∀v U,VR (tF P) y v U->(n=.value v\/(n=.skip/\v=ud))->∀u2,Off ⟨y.own,S⟩ u1 u2->AtG P S b cs Rr R ⟨y.own,S⟩ (G (b.at (a'.put o.dst U) (.inRegion ops rest::k)) cs) u2:=λv U hv Y u2 ac=>⟨y,a.put o.dst v,a'.put o.dst U,_,m,rfl,rfl,oV (x1.mono l2) hv o.dst,by rw[put_defers];exact x2,I,M.off C ac,C,l2,h n v m s1 Y⟩
  cases aa with
  |value hv=>exact⟨(⟨y.own,S⟩,_,u1),.stop rfl (E _ _ hv (.inl rfl)),_,stepG_value ho J hk A,s,T⟩
  |skip=>exact⟨(⟨y.own,S⟩,_,u1),.stop rfl (E _ _ rE (.inr ⟨rfl,rfl⟩)),_,stepG_none ho J hk A,s,T⟩
  |enter f _ _=>exact absurd (hn _ _ s1) yW
  |round f _ _ _ _ _=>exact absurd (hn _ _ s1) yW
def yB{S:vL->wD->Prop}(y:ops[i]? =some o)(q:opS P (tF P) (tG P) o=true)(m:eY true o=true)(l:∀c x,o.op=.call c->c.callee≠.value x)(A:Ag2 o (yielded ops a.tmps)=true)(r:b.kind≠.early)(hr:∀τ d,∃v g,(execOp a.eval o).run P (w.tp τ d noJ)=.ok (.value v) g/\S v g)(h:∀v g,S v g->GLb P b (.inRegion ops rest::k) R (a.put o.dst v) g):GLb P b (.inRegion ops (i::rest)::k) R a w:=
 NJ (S:=λn g=>∃v,n=.value v/\S v g) y q m l A r (λτ d=>let ⟨v,g,e,s⟩:=hr τ d;⟨_,g,e,v,rfl,s⟩) (λn g ⟨v,e,_⟩=>.inl ⟨v,e⟩) λn v g ⟨D,e,s⟩ C=>by grind
def Zh{S:wD->Prop}(y:ops[i]? =some o)(q:opS P (tF P) (tG P) o=true)(m:eY true o=true)(l:∀c x,o.op=.call c->c.callee≠.value x)(A:Ag2 o (yielded ops a.tmps)=true)(r:b.kind≠.early)(hr:∀τ d,∃g,(execOp a.eval o).run P (w.tp τ d noJ)=.ok .skip g/\S g)(h:∀g,S g->GLb P b (.inRegion ops rest::k) R (a.put o.dst ud) g):GLb P b (.inRegion ops (i::rest)::k) R a w:=
 NJ (S:=λn g=>n=.skip/\S g) y q m l A r (λτ d=>let ⟨g,e,s⟩:=hr τ d;⟨_,g,e,rfl,s⟩) (λn g ⟨e,_⟩=>.inr e) λn v g ⟨e,s⟩ C=>by grind
def Zi(q:P.follows .mixedOrders=true){id:Nat}(h:∀t,GLb P b (.inRegion ops (Ajf .any ops ops.size t (Afc ops.size false) [])::k) R a w):GLb P b (.code (.region id ops true)::k) R a w:=by refine yx λS Rr a' u cs r s x y m A=>NH q λt u' g=>.stop rfl λu2 l=>?_;have e:=m;exact⟨Rr,a,a',_,w,rfl,rfl,r,s,x,y.off e (g.trans l),m,.refl _,h t⟩
def FV{t:Tmp}{args:Array Operand}{ats:Array TypeId}(M:ops[i]? =some o)(x:o.op=.call {callee:=.value (.func f),args,argTypes:=ats})(hg:o.guard=none)(F:tF P f=true)(r:P.funcs[f]? =some fn)(m:fn.results=#[.tmp t])(K:b.kind≠.early)(I:args.all (aU (tF P) (tG P))=true)(G:∀v w τ d,Q v (w.tp τ d noJ)->Q v w)(hc:∀τ,cF P f (args.map a.eval) (w.tp τ 0 noJ) λe X=>∃v,e=rT v/\Q v X)(h:∀v q,Q v q->GLb P b (.inRegion ops rest::k) R (a.put o.dst v) q):GLb P b (.inRegion ops (i::rest)::k) R a w:=by refine yx λS Rr a' u cs C Y Z x4 x5 D=>?_;refine EW (Gl:=tG P) (S:=S) Team.good Team.fc r m F M (by grind [Ag2]) K x x5 D Z x4 (mO (qw C D) I) G hc λE v V q u1 l J U T y A g O=>.stop rfl λu2 s=>?_;exact⟨E,a.put o.dst v,a'.put o.dst V,_,q,rfl,rfl,oV (C.mono l) U o.dst,by rw[put_defers];exact Y,y,A.off g s,g,l,h v q T⟩
end
section
variable {P:pQ} [Team P] {b:fR} {R:vL->wD->Prop} {a:Act} {w:wD} {it k:List Item} {ops:Array Oper} {i:Nat} {rest:List Nat} {o:Oper}
omit [Team P] in
def NK{main:Bool}{cs:List fR}{e:List Item}{c:fR}{u1:wD}(hn:b.kind=.normal)(g:a.defers=[])(l:P.funcs[b.fn]? =some fn)(hr:(results fn a.tmps).run P w=.ok v u1):
 stepG P main (G {b.at a e with mode:=.returning} (c::cs)) w=.go (G (c.finish v) cs) u1 (seen P b.fn ((results fn a.tmps).events P w #[])):=by
 simp[G,stepG,unwind,doReturn,Ahr,hn,g,l,hr,GStep.after]
def beside_step{S dead:Nat->Prop}{g g1:gO}{gs:Array gO}{sl:Option (Nat×Nat)}{t:Trace}{q:Nat->Nat}(s:g.status=.running)(l:g1.status=.running)(E:∀u',stepG P true g u'=.go g1 u' #[])(r:Mod P S dead Rr w u)(K:gs[0]? =some g)(T:Leavers P t gs q)(U:Past (bW dead) u.heap.size t):
 ∃(N:Nat) (e:Array gO) (u':wD) (m:Option (Nat×Nat)) (y:Trace) (G:Nat->Nat),runNT P N (crowd gs u sl) t=(.next (crowd e u' m),y)/\e[0]? =some g1/\Mod P S dead Rr w u'/\Sm S u u'/\Leavers P y e G/\Past (bW dead) u'.heap.size y:=by
 have D:=r.own;have Y:aH P true (λH I u'=>H=⟨Rr.own,S⟩/\I=g1/\WR P (tF P) (tK P) Rr (w.tp u'.tape u'.drawn noJ) u') (⟨Rr.own,S⟩,g,u):=
  aH.step' s λu' X=>⟨(_,g1,u'),.stop l λu2 F=>⟨rfl,rfl,r.wr.off D (X.trans F)⟩,#[],E u',.still _ _,yW⟩
 obtain⟨N,e,H',I,u',m,y,G,M,_,O,_,⟨rfl,rfl,J⟩,V,hw,A,C⟩:=xR (dead:=dead) Y u gs sl t q (Off.refl _ _) r.live K T U;obtain⟨Z,x⟩:=r.went hw;exact⟨N,e,u',m,y,G,M,O,⟨J,r.own,r.gl,V,x⟩,Z,A,C⟩
def NM{args:Array Operand}{ats:Array TypeId}(ho:ops[i]? =some o)(U:o.op=.call {callee:=.value (.func f),args,argTypes:=ats})(hg:o.guard=none)(M:P.funcs[f]? =some fn)(l:(fn.name== "runtime.NumGoroutine")=false)(I:fn.body.isNone=false)(hk:b.kind≠.early)(ha:args.all (aU (tF P) (tG P))=true)(hc:bT P f (args.map a.eval) w Q)(h:∀v w1,Q v w1->GLb P b (.inRegion ops rest::k) R (a.put o.dst v) w1):GLb P b (.inRegion ops (i::rest)::k) R a w:=by
 intro S dead Rr a' u gs sl t q cs x1 x2 x3 x4 E hL hP;have hE:=qw (F:=tF P) (Gl:=tG P) x1 x4.gl;have ag:∀u',stepG P true (G (b.at a' (.inRegion ops (i::rest)::k)) cs) u'=.go (G (Frame.enter P f (args.map a'.eval) .normal) (b.at a' (.inRegion ops (i::rest)::k)::cs)) u' #[]:=λu'=>by
  rw[stepG_enter ho (by grind [Ag2]) hk (run_call_body U M l I)];have:listed P b.fn a' o u'=#[]:=by unfold listed;rw[events_call_body U M l I];exact seen_none P _
  rw[this]
 obtain⟨N1,aa,u1,ao,t1,q1,r1,e1,m1,s1,ab,ad⟩:=beside_step rfl rfl ag x4 E hL hP;refine Out.ahead r1 (.refl _) s1 ?_;obtain⟨N2,av,d2,R2,v,g',C,u2,ax,t2,q2,r2,e2,⟨T,Z,au,s,rfl,hT,af,ar⟩,hq,ak,Y,⟨O,s2⟩,ac,ae⟩:=hc S dead Rr _ u1 aa ao t1 q1 _ (mO hE ha) x3 m1 e1 ab ad;refine Out.ahead r2 O s2 ?_;have J:∀A,(b.at a' (.inRegion ops (i::rest)::k)).finish A=b.at (a'.put o.dst A) (.inRegion ops rest::k):=by grind [Frame.finish_at]
 refine ND (dead:=d2) (w:=C) (Rr:=R2) ?_ Y e2 ac ae;refine aH.step' rfl λu' ah=>?_;have an:=Y.wr.off (S:=S) Y.own ah
 cases aj:(results s T).runT P (C.tp u'.tape u'.drawn noJ) #[]with
 |mk r es0=>
  have er:r=.ok v (C.tp u'.tape u'.drawn noJ):=by grind [Ajj]
  subst er;obtain⟨D,A,u3,ap,l3,e3,y,al,g,aw⟩:=D8 (K:=tK P) s hT R2 (.refl _) _ u' an #[] _ _ es0 aj #[];have m:∀b x,D.rel b x->D.own x\/S x:=λb x X=>by
   rcases g.new b x X with E|E
   ·exact(Y.own _ _ E).imp (l3.own _) id
   exact .inl ((g.own x).2 (.inr ⟨E,(y.dom b x X).2⟩))
  have V:(results s Z).run P u'=.ok A u3:=by rw[<-Ajj P _ u' #[],e3]
  have aq:(results s Z).events P u' #[]=ap:=by simp_all
  have am:WR P (tF P) (tK P) D (C.tp u3.tape u3.drawn noJ) u3:=by
   have e1:=y.tape;have e2:=y.drawn
   grind [World.tp]
  refine⟨(⟨D.own,S⟩,G (b.at (a'.put o.dst A) (.inRegion ops rest::k)) cs,u3),.stop rfl λu4 ai=>⟨D,a.put o.dst v,a'.put o.dst A,_,C,rfl,rfl,oV (x1.mono (O.trans l3)) al o.dst,by rw[put_defers];exact x2,ak,am.off (S:=S) m ai,m,l3,h v C hq⟩,_,by rw[<-J];exact NK (a:=⟨Z,[]⟩) rfl rfl af V,⟨g.size,λb X hm=>g.keep b X hm,λb=>(g.own b).1,λb h=>(g.own b).2 (.inl h),rfl,g.same⟩,λe he=>Au (S:=S) m ?_⟩
  grind [mem_seen]
def iU{x:Code}{args:Array vL}(A:P.funcs[f]? =some fn)(y:fn.body=some x)(h:GLb P (Go.Conc.base f) [.code x] R {tmps:=args++Afc (fn.ntmps-args.size) ud,defers:=[]} w):bT P f args w R:=by intro S e Rr g u gs C t q cs m D E l r s;rw[enter_at _ A y,<-m.size]at l;exact h S e Rr _ u gs C t q cs (m.append (KJ _ rE)) rfl D E l r s
def BI(I:P.funcs[b.fn]? =some fn){it:List Item}(r:∀(a':Act) (cs:List fR) u',stepG P true (G (b.at a' it) cs) u'=.go (G {b.at a' it with mode:=.returning} cs) u' #[])(J:∀τ d,(results fn a.tmps).run P (w.tp τ d noJ)=.ok v (w.tp τ d noJ))(h:R v w):GLb P b it R a w:=by
 intro S e Rr a' u gs sl t q cs X y Y Z D E F;obtain⟨A,g,u1,s,V,M,O,x,K,U,l,m⟩:=beside_step rfl rfl (r a' cs) Z D E F;have C:a'=⟨a'.tmps,[]⟩:=by obtain⟨T,d⟩:=a';simp only at y;subst y;rfl
 rw[C]at x;exact⟨A,g,e,Rr,v,_,w,u1,s,V,M,O,x,⟨a.tmps,_,_,fn,rfl,X,I,J⟩,h,Y,K,⟨.refl _,U⟩,l,m⟩
def rU(g:P.funcs[b.fn]? =some fn){t:Tmp}(e:fn.results=#[.tmp t])(h:R (a.tmps.getD t ud) w):GLb P b (.code .ret::k) R a w:=
 BI g (λ_ _ _=>by simp[G,stepG,Afu,Ahr]) (λ_ _=>results_tmp e _ P _) h
def NP(g:P.funcs[b.fn]? =some fn){t t2:Tmp}(e:fn.results=#[.tmp t,.tmp t2])(h:R (.tuple #[a.tmps.getD t ud,a.tmps.getD t2 ud]) w):GLb P b (.code .ret::k) R a w:=
 BI g (λ_ _ _=>by simp[G,stepG,Afu,Ahr]) (λ_ _=>results_tmp2 e _ P _) h
end
def iV(w:wD)(τ:Nat->qS->Nat)(d:Nat):w.tp τ d noJ={w with tape:=τ,drawn:=d}:=by grind [World.tp,uY]
def qx(w:wD)(τ:Nat->qS->Nat)(d:Nat)(x:Obj):(w.tp τ d noJ).alloc x=(w.alloc x).tp τ d noJ:=by rw[iV,iV];rfl
def qy(w:wD)(τ:Nat->qS->Nat)(d:Nat)(p:aD)(v:vL):(w.tp τ d noJ).setCell p v=(w.setCell p v).tp τ d noJ:=by rw[iV,iV];rfl
theorem aT(w:wD)(τ:Nat->qS->Nat)(d:Nat)(p:aD):(w.tp τ d noJ).cell? p=w.cell? p:=jQ _ _ _ dS p
section
variable {P:pQ} [Team P] {b:fR} {R:vL->wD->Prop} {a:Act} {w:wD} {it k:List Item} {ops:Array Oper} {i:Nat} {rest:List Nat} {o:Oper}
structure eU (P:pQ) [Team P] (ops:Array Oper) (i:Nat) (o:Oper):Prop where
 at_:ops[i]? =some o
 sim:opS P (tF P) (tG P) o=true
 ok:eY true o=true
 nocall:∀c x,o.op=.call c->c.callee≠.value x
 free:o.guard=none
def okA(h:ops[i]? =some o)(h2:opS P (tF P) (tG P) o=true:=by kernel_rfl)(h3:eY true o=true:=by rfl)(h4:∀c x,o.op=.call c->c.callee≠.value x:=by intro c x h e;cases h<;>cases e)(h5:o.guard=none:=by rfl):eU P ops i o:=⟨h,h2,h3,h4,h5⟩
theorem eU.wanted(h:eU P ops i o)(y:Nat->Option Bool):Ag2 o y=true:=by simp[Ag2,h.free]
def BJ{w1:wD}(g:eU P ops i o)(r:b.kind≠.early)(hr:∀τ d,∃l,(execOp a.eval o).run P (w.tp τ d noJ)=.ok (.value v) (w1.tp τ l noJ))(h:GLb P b (.inRegion ops rest::k) R (a.put o.dst v) w1):GLb P b (.inRegion ops (i::rest)::k) R a w:=
 yB (S:=λx m=>x=v/\∃τ d,m=w1.tp τ d noJ) g.at_ g.sim g.ok g.nocall (by simp[Ag2,g.free]) r
  (λτ d=>let ⟨l,e⟩:=hr τ d;⟨_,_,e,rfl,τ,l,rfl⟩) λx m ⟨e,τ,d,q⟩=>by subst e q;exact wo h
def fO(v:vL)(l:eU P ops i o)(e:o.dst=some d)(g:b.kind≠.early)(m:d<a.tmps.size)(hr:∀τ d,(execOp a.eval o).run P (w.tp τ d noJ)=.ok (.value v) (w.tp τ d noJ))(h:∀a',Put a a' d v->GLb P b (.inRegion ops rest::k) R a' w):GLb P b (.inRegion ops (i::rest)::k) R a w:=
 BJ l g (λτ d=>⟨d,hr τ d⟩) (by grind [dU])
def qA(v:vL)(x:Obj)(l:eU P ops i o)(e:o.dst=some d)(g:b.kind≠.early)(m:d<a.tmps.size)(hr:∀τ d,(execOp a.eval o).run P (w.tp τ d noJ)=.ok (.value v) ((w.tp τ d noJ).alloc x))(h:∀a',Put a a' d v->GLb P b (.inRegion ops rest::k) R a' (w.alloc x)):GLb P b (.inRegion ops (i::rest)::k) R a w:=
 BJ (w1:=w.alloc x) l g (λτ d=>⟨d,by rw[hr,qx]⟩) (by grind [dU])
def oW{w1:wD}(l:eU P ops i o)(g:o.dst=none)(s:b.kind≠.early)(hr:∀τ d,∃m,(execOp a.eval o).run P (w.tp τ d noJ)=.ok .skip (w1.tp τ m noJ))(h:GLb P b (.inRegion ops rest::k) R a w1):GLb P b (.inRegion ops (i::rest)::k) R a w:=
 Zh (S:=λq=>∃τ d,q=w1.tp τ d noJ) l.at_ l.sim l.ok l.nocall (by simp[Ag2,l.free]) s
  (λτ d=>let ⟨m,e⟩:=hr τ d;⟨_,e,τ,m,rfl⟩) λq ⟨τ,d,r⟩=>by subst r;rw[g];exact wo h
end
def NQ{L:Array Bool}{i:Nat}(d:Bool)(h:i<L.size):(L.setIfInBounds i true).getD i d=true:=by simp[h]
def FW{L:Array Bool}{i j:Nat}(d:Bool)(h:i≠j):(L.setIfInBounds i true).getD j d=L.getD j d:=by simp_all
def nH:Nat->Array Bool->Nat
 |0,_=>0
 |n+1,L=>nH n L+(if L.getD n true then 0 else 1)
theorem NR:∀(n i:Nat) (L:Array Bool),n<=i->nH n (L.setIfInBounds i true)=nH n L
 |0,_,_,_=>rfl
 |n+1,i,L,h=>by unfold nH;rw[NR n i L zP,FW true zP]
theorem FX:∀(n i:Nat) (L:Array Bool),i<n->L.getD i true=false->nH n (L.setIfInBounds i true)+1=nH n L
 |0,_,_,h,_=>by omega
 |n+1,i,L,h,hl=>by
  have g:i<L.size:=by grind
  unfold nH;by_cases e:i=n
  ·subst e;rw[NR i i L (nR _),NQ true g,hl];simp
  rw[FW true e];have:=FX n i L zP hl;omega
theorem Zj:∀(n i:Nat) (L:Array Bool),i<n->L.getD i true=false->0<nH n L:=by grind [FX]
def Zk(n m:Nat):nH n (Afc m false)<=n:=by
 induction n with
 |zero=>exact nR _
 |succ n ih=>
  unfold nH
  grind
def oZ(n:Nat)(ds:List (List Nat)):Bool:=(Aes n).all λi=>((ds[i]?).getD []).all λj=>decide (j<i)
section
variable {P:pQ} [Team P] {b:fR} {R:vL->wD->Prop} {a:Act} {w:wD} {it k:List Item} {ops:Array Oper} {i:Nat} {rest:List Nat} {o:Oper}
def NS(hm:P.follows .mixedOrders=true){id:Nat}(ds:List (List Nat))(V:qp ops ds=true)(r:oZ ops.size ds=true)(J:(Nat->Bool)->Act->wD->Prop)(X:J (λ_=>false) a w)(U:∀f g a w,(∀i,i<ops.size->f i=g i)->J f a w->J g a w)(y:∀f a w i rest,J f a w->i<ops.size->f i=false->(∀j∈(ds[i]?).getD [],f j=true)->(∀a' I,J (λj=>j==i||f j) a' I->GLb P b (.inRegion ops rest::k) R a' I)->GLb P b (.inRegion ops (i::rest)::k) R a w)(C:∀f a w,J f a w->(∀i,i<ops.size->f i=true)->GLb P b k R a w):GLb P b (.code (.region id ops true)::k) R a w:=by
 have T:∀(l t:Nat) (L:Array Bool) (a:Act) (w:wD),L.size=ops.size->nH ops.size L<=l->J (λj=>L.getD j false) a w->GLb P b (.inRegion ops (Ajf .any ops l t L [])::k) R a w:=by
  have A:∀(L:Array Bool) (a:Act) (w:wD),L.size=ops.size->J (λj=>L.getD j false) a w->Aig .any ops L=[]->GLb P b (.inRegion ops []::k) R a w:=λL a w F q s=>by
   refine bM (C _ a w q λi D=>?_);have G:∀m i,i<m->i<ops.size->L.getD i false=true:=λm=>by
    induction m with
    |zero=>intro i h;omega
    |succ m ih=>
     intro i Z D;apply Classical.byContradiction;intro hn;have K:L.getD i true=false:=by
      have aa:i<L.size:=zP
      grind
     have:i∈Aig .any ops L:=(wu V).2 ⟨D,K,λj q=>by
      have hlt:j<i:=by
       unfold oZ at r;rw[Ah8]at r
       grind
      exact ih j zP zP⟩
     rw[s]at this
     cases this
   exact G (i+1) i (Nat.lt_succ_self _) D
  intro l
  induction l with
  |zero=>
   intro t L a w F hc q;have s:Aig .any ops L=[]:=by
    cases s:Aig .any ops L with
    |nil=>rfl
    |cons x xs=>
     have hx:x∈Aig .any ops L:=by rw[s];exact Aah
     grind [wu,Zj]
   exact A L a w F q s
  |succ l ih=>
   intro t L a w F hc q
   rcases FP ops l t L with⟨s,e⟩|⟨i,D,t',e⟩
   ·rw[e];exact A L a w F q s
   rw[e];obtain⟨K,h2,Y⟩:=(wu V).1 D;have E:i<L.size:=zP
   refine y _ a w i _ q K (by simp[Array.getD,E]at h2⊢; exact h2) Y λa' I O=>?_;refine ih t' _ a' I (by simp[F]) (by have:=FX _ _ _ K h2;omega) (U _ _ a' I (λj q=>?_) O);by_cases M:j=i
   ·subst M;rw[NQ false E];simp
   rw[FW false (Ne.symm M)];simp[M]
 exact Zi hm λt=>T ops.size t _ a w yW (Zk _ _) (U _ _ a w (λj q=>by simp[Array.getD]) X)
def Zl(J:P.follows .mixedOrders=true){id:Nat}(ds:List (List Nat))(G:qp ops ds=true)(q:oZ ops.size ds=true)(g:Nat->Nat)(y:Nat->vL)(m:∀i,i<ops.size->∀j,j<ops.size->i≠j->g i≠g j)(l:∀(f:Nat->Bool) (a1:Act) (i:Nat) (rest:List Nat),a1.tmps.size=a.tmps.size->(∀j,(∀i,i<ops.size->g i≠j)->a1.tmps[j]?.getD ud=a.tmps[j]?.getD ud)->(∀j,j<ops.size->f j=true->a1.tmps[g j]?.getD ud=y j)->i<ops.size->(∀j∈(ds[i]?).getD [],f j=true)->
 (∀r,Put a1 r (g i) (y i)->GLb P b (.inRegion ops rest::k) R r w)->GLb P b (.inRegion ops (i::rest)::k) R a1 w)(F:∀a1:Act,a1.tmps.size=a.tmps.size->(∀j,(∀i,i<ops.size->g i≠j)->a1.tmps[j]?.getD ud=a.tmps[j]?.getD ud)->(∀j,j<ops.size->a1.tmps[g j]?.getD ud=y j)->GLb P b k R a1 w):GLb P b (.code (.region id ops true)::k) R a w:=by
 refine NS J ds G q (λf a1 D=>D=w/\a1.tmps.size=a.tmps.size/\(∀j,(∀i,i<ops.size->g i≠j)->a1.tmps[j]?.getD ud=a.tmps[j]?.getD ud)/\∀j,j<ops.size->f j=true->a1.tmps[g j]?.getD ud=y j) ⟨rfl,rfl,λ_ _=>rfl,λj _ h=>by cases h⟩ ?_ ?_ ?_
 ·grind
 ·rintro f a1 D i rest ⟨rfl,h2,E,h4⟩ C _ A I;refine l f a1 i rest h2 E h4 C A λr x=>I r D ⟨rfl,x.size.trans h2,λj s=>(x.other j λe=>s i C e.symm).trans (E j s),λj s K=>?_⟩;by_cases e:j=i
  ·subst e;exact x.same
  rw[x.other (g j) (m j s i C e)]
  grind
 grind
def Zm{t:Tmp}{args:Array Operand}{ats:Array TypeId}(v:vL)(F:ops[i]? =some o)(y:o.op=.call {callee:=.value (.func f),args,argTypes:=ats})(D:o.guard=none)(A:tF P f=true)(s:P.funcs[f]? =some fn)(m:fn.results=#[.tmp t])(E:b.kind≠.early)(C:args.all (aU (tF P) (tG P))=true)(hc:∀τ,cF P f (args.map a.eval) (w.tp τ 0 noJ) λe g=>e=rT v/\w.tp τ 0 noJ=g.tp τ 0 noJ)(h:GLb P b (.inRegion ops rest::k) R (a.put o.dst v) w):GLb P b (.inRegion ops (i::rest)::k) R a w:=
 FV (Q:=λx g=>x=v/\∀τ,w.tp τ 0 noJ=g.tp τ 0 noJ) F y D A s m E C (λx g τ d h=>⟨h.1,λl=>by rw[h.2 l,fB]⟩) (λτ=>(hc τ).mono λe g ⟨q,r⟩=>⟨v,q,rfl,λl=>by
  have:=congrArg (λx:wD=>x.tp l 0 noJ) r;simpa only[fB]using this⟩) λx g ⟨q,r⟩=>by
  subst q;have:=r g.tape
  grind [Y9,wo]
end
def NT{P:pQ}{α:Type}{A:α->Prop}{s:Sem α}{x:wD}{v:α}(hc:Calm P A s)(G:Started x)(h:s.run P x=.ok v x)(τ:Nat->qS->Nat)(d:Nat):s.run P (x.tp τ d noJ)=.ok v (x.tp τ d noJ):=by
 obtain⟨k,r,q,_,_⟩:=Dh s x hc G;obtain⟨I,e,_⟩:=q x.tape x.drawn noJ #[] dS (λ_ _=>rfl) (.inl rfl);rw[jP]at e;have g:Result.tp r x.tape (x.drawn+k) noJ=.ok v x:=by grind [Ajj]
 cases r with
 |halt y z=>cases g
 |ok v' x'=>
  simp only[Result.tp,Result.ok.injEq]at g;obtain⟨rfl,l⟩:=g;have F:k=0:=by
   have:=congrArg World.drawn l
   grind [World.tp]
  subst F;obtain⟨E,C,_⟩:=q τ d noJ #[] dS (λj J=>zP) (.inl rfl);have m:=Ajj P s (x.tp τ d noJ) #[];rw[C]at m;have D:x'.tp τ d noJ=x.tp τ d noJ:=by rw[<-l,fB]
  rw[<-m];simp only[Result.tp,Nat.add_zero];rw[D]
section
variable {P:pQ} [Team P] {b:fR} {R:vL->wD->Prop} {a:Act} {w:wD} {k:List Item}
def AtE(P:pQ)[Team P](S:Nat->Prop)(b:fR)(cs:List fR)(Rr:Rl)(R:vL->wD->Prop)(H:Hold)(g:gO)(u:wD):Prop:=
 ∃(e:Rl) (v:vL) (T r:Array vL) (l:List Item) (fn:Func) (m:wD),H=⟨e.own,S⟩/\g=G {b.at ⟨r,[]⟩ l with mode:=.returning} cs/\P.funcs[b.fn]? =some fn/\(∀τ d,(results fn T).run P (m.tp τ d noJ)=.ok v (m.tp τ d noJ))/\VRs (tF P) e T r/\Started m/\WR P (tF P) (tK P) e (m.tp u.tape u.drawn noJ) u/\(∀b q,e.rel b q->e.own q\/S q)/\Rr.le e/\R v m
def Zo{cs:List fR}{S dead:Nat->Prop}{g:gO}{gs:Array gO}{sl:Option (Nat×Nat)}{t:Trace}{q:Nat->Nat}(hr:aH P true (λH g u=>AtG P S b cs Rr R H g u\/AtE P S b cs Rr R H g u) (⟨Rr.own,S⟩,g,u))(s:Mod P S dead Rr w u)(h0:gs[0]? =some g)(hL:Leavers P t gs q)(hP:Past (bW dead) u.heap.size t):Out P S b cs gs u sl t Rr R:=by
 obtain⟨N,l,H',g',u',y,t',Z,U,_,V,_,h4,X,Y,m,r⟩:=xR (dead:=dead) hr u gs sl t q (Off.refl _ _) s.live h0 hL hP
 rcases h4 with⟨D,a1,E,aa,w1,rfl,rfl,F,G,e3,I,J,C,K⟩|⟨D,v,T,T',A,fn,w1,rfl,rfl,F,G,I,J,C,K,O,e9⟩
 ·obtain⟨M,e⟩:=s.went Y;exact Out.ahead U C M (K S dead D E u' l y t' Z cs F G e3 ⟨I,J,λx hx=>C.rel _ _ (s.gl x hx),X,e⟩ V m r)
 obtain⟨M,e⟩:=s.went Y;exact⟨N,l,dead,D,v,_,w1,u',y,t',Z,U,V,⟨T,T',A,fn,rfl,I,F,G⟩,e9,J,⟨C,K,λx hx=>O.rel _ _ (s.gl x hx),X,e⟩,⟨O,M⟩,m,r⟩
def FY{S S2:Act->wD->Prop}(aj:Kn P b.fn)(hk:b.kind≠.early)(hd:a.defers=[])(hc:fE P (tF P) (tG P) c=true)(al:codeOk true c=true)(hS:∀a w τ d,S a (w.tp τ d noJ)->S a w)(an:∀a w τ d,S2 a (w.tp τ d noJ)->S2 a w)(h:∀τ,c.wp P (λe a' D=>a'.defers=[]/\(e=.normal/\S a' D\/e=.ret/\S2 a' D)) a (w.tp τ 0 noJ))(hn:∀a' D,a'.defers=[]->S a' D->GLb P b k R a' D)(hr:∀a' D,Started D->S2 a' D->∃fn v,P.funcs[b.fn]? =some fn/\(∀τ d,(results fn a'.tmps).run P (D.tp τ d noJ)=.ok v (D.tp τ d noJ))/\R v D):GLb P b (.code c::k) R a w:=by
 intro Sh dead Rr a' u gs sl t q cs x1 x2 x3 x4 h0 hL hP;have ai:FrR P (tF P) (tG P) k Rr (b.at a [.code c,fK]) (b.at a' (.code c::k)):=by
  refine⟨rfl,aj,.cons (.same (it:=.code c) hc) (.halt rfl),?_,rfl,hk,rfl,.none,x1⟩
  show DfR Rr a.defers a'.defers
  rw[hd,x2];exact .nil
 have hg:GoK P (tF P) (tG P) k cs Rr (G (b.at a [.code c,fK]) []) (G (b.at a' (.code c::k)) cs):=⟨ai,.nil,rfl,rfl,rfl,rfl,.inl rfl,λx hx=>(by cases hx),.inl rfl,rfl,rfl⟩;have Y:jR (G (b.at a [.code c,fK]) []):=by
  refine⟨⟨λit Z=>?_,λd ah=>?_,hk⟩,λx hx=>by cases hx⟩
  ·rcases Ab3.1 Z with rfl|Z
   ·exact al
   rcases Ab3.1 Z with rfl|Z
   ·exact(rfl:codeOk true (.cond (.const ud) .skip .skip)=true)
   cases Z
  have:d∈a.defers:=ah
  grind
 have ae:Run P (pO λg D=>(∃a1,g=G (b.at a1 [fK]) []/\a1.defers=[]/\S a1 D)\/∃a1 l,g=G {b.at a1 l with mode:=.returning} []/\a1.defers=[]/\S2 a1 D) (G (b.at a [.code c,fK]) []) w:=by
  refine DU Team.good (λg w τ d C=>?_) ⟨Y,rfl,rfl,x3⟩ λτ=>?_
  ·grind
  obtain⟨e,a1,T,⟨r,C⟩,U⟩:=h τ b [fK] [];have A:∀n g1,runN P n (oneG (G (b.at a [.code c,fK]) []) (w.tp τ 0 noJ))=.next (oneG g1 T)->¬dZ P g1 T->zL P (Team.I P) n (oneG (G (b.at a [.code c,fK]) []) (w.tp τ 0 noJ)):=λn g1 hn ak=>AZ Team.good Team.fc n (u:=u.tp τ 0 noJ) x4.gl hg Y (fC x3 τ 0) (by have:=x4.wr.tps τ 0;rwa [fB]at this) hn ak
  rcases C with⟨rfl,C⟩|⟨rfl,C⟩
  ·obtain⟨n,hn⟩:=U;exact⟨n,_,hn,⟨G (b.at a1 [fK]) [],T,rfl,rfl,rfl,.inl ⟨a1,rfl,r,C⟩⟩,A n (G (b.at a1 [fK]) []) hn (rG rfl rfl (.inl rfl))⟩
  obtain⟨l,n,hn⟩:=U;exact⟨n,_,hn,⟨G {b.at a1 l with mode:=.returning} [],T,rfl,rfl,rfl,.inr ⟨a1,l,rfl,r,C⟩⟩,A n (G {b.at a1 l with mode:=.returning} []) hn (rG rfl rfl (.inr rfl))⟩
 refine Zo (dead:=dead) (w:=w) (Rr:=Rr) ?_ x4 h0 hL hP;refine(Ey Team.good Team.fc (mn:=true) (λg w C=>?_) (S:=Sh) (R0:=Rr) ae Rr _ u (.refl _) (λ_ _ h=>h) hg Y x3 x4.gl x4.own x4.wr).mono ?_
 ·rcases C.1 with⟨_,rfl,_⟩|⟨_,_,rfl,_⟩
  ·exact rG rfl rfl (.inl rfl)
  exact rG rfl rfl (.inr rfl)
 rintro H g' u1 ⟨R1,g1,T,l1,_,⟨C,s⟩,ad,X,rfl,ag⟩;obtain⟨ac,am,st,dy,ao⟩:=g';have V:=ag
 rcases C with⟨a1,rfl,r,C⟩|⟨a1,l,rfl,r,C⟩
 ·obtain⟨I,F,_,M,_,J,_,_,_,_,K⟩:=ad;simp only[G]at I F M J K;subst M J K
  cases F
  obtain⟨af,y,m,E,ab,aa,O⟩:=ac;obtain⟨q1,_,q3,q4,q5,_,q7,q8,q9⟩:=I;simp only[Ahr]at q1 q3 q4 q5 q7 q8 q9;subst q1 q5 q7;rw[r]at q4
  cases q4
  cases q8
  have e:m=k:=by
   cases q3 with
   |cons Z _=>cases Z with
    |same h=>cases h
   |halt _=>rfl
  subst e;exact .inl ⟨R1,a1,⟨y,[]⟩,m,T,rfl,rfl,q9,rfl,s.started,X,V,l1,hn a1 T r C⟩
 obtain⟨I,F,_,M,_,J,_,_,_,_,K⟩:=ad;simp only[G]at I F M J K;subst M J K
 cases F
 obtain⟨af,y,m,E,ab,aa,O⟩:=ac;obtain⟨q1,_,q3,q4,q5,_,q7,q8,q9⟩:=I;simp only[Ahr]at q1 q3 q4 q5 q7 q8 q9;subst q1 q5 q7;rw[r]at q4
 cases q4
 cases q8
 obtain⟨fn,v,e1,e2,e3⟩:=hr a1 T s.started C;exact .inr ⟨R1,v,a1.tmps,y,m,fn,T,rfl,rfl,e1,e2,q9,s.started,X,V,l1,e3⟩
def fP{S:Act->wD->Prop}(l:Kn P b.fn)(y:b.kind≠.early)(x:a.defers=[])(hc:fE P (tF P) (tG P) c=true)(m:codeOk true c=true)(s:∀a w τ d,S a (w.tp τ d noJ)->S a w)(h:∀τ,c.wp P (λe a' g=>e=.normal/\a'.defers=[]/\S a' g) a (w.tp τ 0 noJ))(hn:∀a' g,a'.defers=[]->S a' g->GLb P b k R a' g):GLb P b (.code c::k) R a w:=
 FY (S2:=λ_ _=>False) l y x hc m s (λ_ _ _ _ h=>h) (λτ=>wp_mono (h τ) λ_ _ _ ⟨q,h2,r⟩=>⟨h2,.inl ⟨q,r⟩⟩) hn λ_ _ _ h=>h.elim
def o7(A:P.funcs[b.fn]? =some fn)(I:P.inits.idxOf? b.fn=none)(V:b.kind≠.early)(U:a.defers=[])(hc:fE P (tF P) (tG P) c=true)(J:codeOk true c=true)(T:∀v w τ d,Q v (w.tp τ d noJ)->Q v w)(h:∀τ,c.wp P (bodyPost P fn λe F=>∃v,e=rT v/\Q v F) a (w.tp τ 0 noJ))(hn:∀v F,Q v F->R v F):GLb P b [.code c] R a w:=by
 have M:∀(a:Act) (w:wD) (τ:Nat->qS->Nat) (d:Nat),(∃v,(∃g m,(results fn a.tmps).run P ((w.tp τ d noJ).tp g m noJ)=.ok v ((w.tp τ d noJ).tp g m noJ))/\Q v (w.tp τ d noJ))->∃v,(∃g m,(results fn a.tmps).run P (w.tp g m noJ)=.ok v (w.tp g m noJ))/\Q v w:=λa w τ d ⟨v,⟨g,m,r⟩,h2⟩=>⟨v,⟨g,m,by rwa [fB]at r⟩,T _ _ _ _ h2⟩;have s:∀(a:Act) (w:wD),Started w->(∃v,(∃g m,(results fn a.tmps).run P (w.tp g m noJ)=.ok v (w.tp g m noJ))/\Q v w)->∃v,(∀τ d,(results fn a.tmps).run P (w.tp τ d noJ)=.ok v (w.tp τ d noJ))/\Q v w:=λa w E ⟨v,⟨g,m,r⟩,h2⟩=>⟨v,λτ d=>by have:=NT (zJ fn a.tmps) (fC E g m) r τ d;rwa [fB]at this,h2⟩
 refine FY (S:=λa w=>∃v,(∃g m,(results fn a.tmps).run P (w.tp g m noJ)=.ok v (w.tp g m noJ))/\Q v w) (S2:=λa w=>∃v,(∃g m,(results fn a.tmps).run P (w.tp g m noJ)=.ok v (w.tp g m noJ))/\Q v w) ⟨fn,A,I⟩ V U hc J M M (λτ=>wp_mono (h τ) λe a1 x C=>?_) (λa1 x _ E=>?_) λa1 x K E=>?_
 ·cases e with
  |normal=>
   obtain⟨r,v,h2,Y,y,h4⟩:=C
   cases y
   exact⟨r,.inl ⟨rfl,v,⟨x.tape,x.drawn,by rw[jP];exact h2⟩,h4⟩⟩
  |ret=>
   obtain⟨r,v,h2,Y,y,h4⟩:=C
   cases y
   exact⟨r,.inr ⟨rfl,v,⟨x.tape,x.drawn,by rw[jP];exact h2⟩,h4⟩⟩
  |panic c=>
   obtain⟨_,v,y,_⟩:=C
   cases y
  |outgrown=>
   obtain⟨v,y,_⟩:=C
   cases y
  |exit i=>exact C.elim
  |goto l=>exact C.elim
 ·intro S D Rr a' u gs X t q cs Z x2 O x4 x5 x6 x7;obtain⟨v,r,h2⟩:=s a1 x O E;exact BI A (λ_ _ _=>by simp[G,stepG,Afu,Ahr]) r (hn _ _ h2) S D Rr a' u gs X t q cs Z x2 O x4 x5 x6 x7
 obtain⟨v,r,h2⟩:=s a1 x K E;exact⟨fn,v,A,r,hn _ _ h2⟩
end
section
open Go.Proofs.Y (Cells)
structure Kp (w w':wD):Prop where
 block:∀b,b<w.heap.size->w'.heap[b]? =w.heap[b]?
 size:w.heap.size<=w'.heap.size
 os:w'.os=w.os
 output:w'.output=w.output
def Kp.refl(w:wD):Kp w w:=⟨λ_ _=>rfl,nR _,rfl,rfl⟩
theorem Kp.trans{x:wD}(h:Kp w u)(k:Kp u x):Kp w x:=⟨λb e=>(k.block b (Ajg e h.size)).trans (h.block b e),Agd h.size k.size,k.os.trans h.os,k.output.trans h.output⟩
def Kp.tp_r:Kp w (u.tp τ d noJ)↔Kp w u:=by rw[iV];exact⟨λh=>⟨h.block,h.size,h.os,h.output⟩,λh=>⟨h.block,h.size,h.os,h.output⟩⟩
def Kp.tp_l:Kp (w.tp τ d noJ) u↔Kp w u:=by rw[iV];exact⟨λh=>⟨h.block,h.size,h.os,h.output⟩,λh=>⟨h.block,h.size,h.os,h.output⟩⟩
def Kp.of_below(h:bX w.heap.size w u):Kp w u:=⟨h.block,h.size,h.os,h.output⟩
theorem Kp.below_tp(h:bX (w.tp τ d noJ).heap.size (w.tp τ d noJ) u):Kp w u:=Kp.tp_l.1 (Kp.of_below h)
theorem Kp.alloc(w:wD)(o:Obj):Kp w (w.alloc o):=⟨λb e=>Below.heap_alloc _ _ _ e,yW,rfl,rfl⟩
theorem Kp.set(h:Kp w u){p:aD}(g:w.heap.size<=p.block)(v:vL):Kp w (u.setCell p v):=⟨λb e=>by rw[Below.heap_setCell _ _ _ _ zP];exact h.block b e,by rw[World.size_setCell];exact h.size,h.os,h.output⟩
theorem Kp.cell{w u:wD}(h:Kp w u){p:aD}{v:vL}(hc:w.cell? p=some v):u.cell? p=some v:=by rw[World.cell?_of_block (w:=w) (h.block _ (wBk w _ hc))];exact hc
def Kp.obj{w u:wD}(h:Kp w u){n:Nat}{o:Obj}(hc:w.heap[n]? =some o):u.heap[n]? =some o:=by rw[h.block n (aS.1 hc).1];exact hc
theorem Kp.cells{w u:wD}(h:Kp w u):∀{l:List (aD×vL)},Cells w l->Cells u l
 |[],_=>trivial
 |_::_,k=>⟨h.cell k.1,Kp.cells h k.2⟩
theorem gX{w:wD}{τ:Nat->qS->Nat}{d:Nat}:∀{l:List (aD×vL)},Cells (w.tp τ d noJ) l↔Cells w l
 |[]=>Iff.rfl
 |_::l=>by
  show (_=_/\Cells _ l)↔(_=_/\Cells _ l)
  rw[aT,gX]
def SlA(a:Act):List (Nat×vL)->Prop
 |[]=>True
 |(k,v)::l=>a.tmps[k]?.getD ud=v/\SlA a l
def Sl(a:Act)(N:Nat)(l:List (Nat×vL)):Prop:=a.tmps.size=N/\a.defers=[]/\SlA a l
theorem SlA.other(h:∀j,j≠d->a'.tmps[j]?.getD ud=a.tmps[j]?.getD ud):∀{l:List (Nat×vL)},(l.map (·.1)).contains d=false->SlA a l->SlA a' l
 |[],_,_=>trivial
 |(k,v)::l,hn,hl=>by simp only[List.map_cons,List.contains_cons,Bool.or_eq_false_iff,beq_eq_false_iff_ne]at hn;exact⟨(h k (Ne.symm hn.1)).trans hl.1,SlA.other h hn.2 hl.2⟩
theorem Sl.other{l:List (Nat×vL)}(h:Sl a N l)(p:Put a a' d v)(hn:(l.map (·.1)).contains d=false):Sl a' N l:=⟨p.size.trans h.1,p.defers.trans h.2.1,h.2.2.other p.other hn⟩
theorem Sl.put{l:List (Nat×vL)}(h:Sl a N l)(p:Put a a' d v)(hn:(l.map (·.1)).contains d=false):Sl a' N ((d,v)::l):=
 ⟨p.size.trans h.1,p.defers.trans h.2.1,p.same,h.2.2.other p.other hn⟩
def up(t:Nat->vL):Nat->Nat->List vL
 |0,_=>[]
 |n+1,k=>t k::up t n (k+1)
theorem NU(t:Nat->vL):∀n k,(up t n k).length=n
 |0,_=>rfl
 |n+1,k=>by unfold up;rw[Ah9,NU t n]
theorem NV(t:Nat->vL):∀n k i,i<n->(up t n k)[i]? =some (t (k+i))
 |0,_,_,h=>by omega
 |n+1,k,0,_=>rfl
 |n+1,k,i+1,h=>by unfold up;rw[List.getElem?_cons_succ,NV t n (k+1) i zP,show k+1+i=k+(i+1) by omega]
def SlT(t:Nat->vL):List (Nat×vL)->Prop
 |[]=>True
 |(k,v)::l=>t k=v/\SlT t l
theorem SlT.of:∀{l:List (Nat×vL)},SlA a l->SlT (λk=>a.tmps[k]?.getD ud) l
 |[],_=>trivial
 |(_,_)::_,h=>⟨h.1,SlT.of h.2⟩
def Sl.lit{l:List (Nat×vL)}(h:Sl a N l):∃t:Nat->vL,a=⟨(up t N 0).toArray,[]⟩/\SlT t l:=by
 refine⟨λk=>a.tmps[k]?.getD ud,?_,SlT.of h.2.2⟩;obtain⟨q,m⟩:=a;obtain⟨e,h2,_⟩:=h;simp only at e h2;subst h2
 congr 1
 apply Array.ext_getElem?;intro i;simp only[List.getElem?_toArray];by_cases g:i<N
 ·rw[NV _ _ _ _ g,Nat.zero_add,Array.getElem?_eq_getElem zP];rfl
 rw[Array.getElem?_eq_none zP,List.getElem?_eq_none (by grind [NU])]
def sv(a:Act):Option Nat->vL
 |none=>ud
 |some d=>a.tmps[d]?.getD ud
def dlB(n N:Nat)(ks:List Nat)(e:List (Option Nat)):Bool:=(Aes n).all λi=>match (e[i]?).getD none with
 |none=>true
 |some d=>decide (d<N)&& !ks.contains d&&(Aes n).all λj=>j==i||decide ((e[j]?).getD none≠some d)
def FZ{n:Nat}{ks:List Nat}{e:List (Option Nat)}(h:dlB n N ks e=true):∀i,i<n->∀d,(e[i]?).getD none=some d->d<N/\ks.contains d=false/\∀j,j<n->j≠i->(e[j]?).getD none≠some d:=λi l d g=>by
 unfold dlB at h
 grind
section
variable {P:pQ} [Team P] {b:fR} {R:vL->wD->Prop} {a:Act} {w:wD} {it k:List Item} {ops:Array Oper} {i:Nat} {rest:List Nat} {o:Oper}
def BK(I:P.follows .mixedOrders=true){id:Nat}{y:Bool}(ds:List (List Nat))(D:qp ops ds=true)(q:oZ ops.size ds=true)(J:(Nat->Bool)->Act->wD->Prop)(C:J (λ_=>false) a w)(A:∀f g a w,(∀i,i<ops.size->f i=g i)->J f a w->J g a w)(e:∀f a w i rest,J f a w->i<ops.size->f i=false->(∀j∈(ds[i]?).getD [],f j=true)->(∀a' r,J (λj=>j==i||f j) a' r->GLb P b (.inRegion ops rest::k) R a' r)->GLb P b (.inRegion ops (i::rest)::k) R a w)(l:∀f a w,J f a w->(∀i,i<ops.size->f i=true)->GLb P b k R a w):GLb P b (.code (.region id ops y)::k) R a w:=by
 cases y with
 |true=>exact NS I ds D q J C A e l
 |false=>
  refine bK ?_;have K:∀(m i:Nat) (a:Act) (w:wD),i+m=ops.size->J (λj=>decide (j<i)) a w->GLb P b (.inRegion ops (List.range' i m)::k) R a w:=λm=>by
   induction m with
   |zero=>exact λi a w E s=>bM (l _ a w s λj F=>by simp;omega)
   |succ m ih=>
    intro i a w E s;rw[Ajh];refine e _ a w i _ s zP yW (λj G=>?_) λa' r x=>ih (i+1) a' r zP (A _ _ a' r (λj _=>?_) x)
    ·unfold oZ at q
     grind
    grind
  grind [List.range_eq_range']
def yC(hm:P.follows .mixedOrders=true){id:Nat}{O:Bool}{l:List (Nat×vL)}(V:Sl a N l)(ds:List (List Nat))(m:List (Option Nat))(Rr:Nat->vL->wD->Prop)(X:qp ops ds=true)(A:oZ ops.size ds=true){ks:List Nat}(G:l.map (·.1)=ks)(y:dlB ops.size N ks m=true)(q:∀(f:Nat->Bool) (a1:Act) (g:wD) (i:Nat) (rest:List Nat),Sl a1 N l->Kp w g->(∀j,j<ops.size->f j=true->Rr j (sv a1 ((m[j]?).getD none)) g)->i<ops.size->(∀j∈(ds[i]?).getD [],f j=true)->
 (∀v r,Kp w r->(∀j,j<ops.size->f j=true->j≠i->Rr j (sv a1 ((m[j]?).getD none)) g->Rr j (sv a1 ((m[j]?).getD none)) r)->((m[i]?).getD none=none->v=ud)->Rr i v r->GLb P b (.inRegion ops rest::k) R (a1.put ((m[i]?).getD none) v) r)->GLb P b (.inRegion ops (i::rest)::k) R a1 g)(K:∀a1 g,Sl a1 N l->Kp w g->(∀j,j<ops.size->Rr j (sv a1 ((m[j]?).getD none)) g)->GLb P b k R a1 g):GLb P b (.code (.region id ops O)::k) R a w:=by
 have x:=FZ y;rw[<-G]at x;refine BK hm ds X A (λf a1 g=>Sl a1 N l/\Kp w g/\∀j,j<ops.size->f j=true->Rr j (sv a1 ((m[j]?).getD none)) g) ⟨V,.refl _,λj _ h=>by cases h⟩ ?_ ?_ ?_
 ·grind
 ·rintro f a1 g i rest ⟨C,h2,J⟩ M Z F hk;refine q f a1 g i rest C h2 J M F λv r h4 h5 h6 E=>hk _ r ?_
  cases e:(m[i]?).getD none with
  |none=>
   refine⟨C,h4,λj D Y=>?_⟩;by_cases s:j=i
   ·subst s;rw[e];rw[h6 e]at E;exact E
   exact h5 j D (by grind) s (J j D (by grind))
  |some d=>
   obtain⟨k1,k2,k3⟩:=x i M d e;have p:=dU a1 (d:=d) v (by rw[C.1];exact k1);refine⟨C.other p k2,h4,λj D Y=>?_⟩;by_cases s:j=i
   ·subst s;rw[e]
    show Rr j ((a1.put (some d) v).tmps[d]?.getD ud) r
    rw[p.same];exact E
   have I:=k3 j D s;have e2:sv (a1.put (some d) v) ((m[j]?).getD none)=sv a1 ((m[j]?).getD none):=by
    cases T:(m[j]?).getD none with
    |none=>rfl
    |some d2=>exact p.other d2 λU=>I (by rw[T,U])
   grind
 grind
variable {w0:wD} {Ri:vL->wD->Prop} {dn:Option Nat}
def Zp(v:vL)(m:eU P ops i o)(l:b.kind≠.early)(g:o.dst=dn)(hr:∀τ d,(execOp a.eval o).run P (w.tp τ d noJ)=.ok (.value v) (w.tp τ d noJ))(r:Ks w)(q:Kp w0 w)(s:Ri v w)(K:∀v e,Kp w0 e->Ks e->(dn=none->v=ud)->Ri v e->GLb P b (.inRegion ops rest::k) R (a.put dn v) e)(hn:dn=none->v=ud):GLb P b (.inRegion ops (i::rest)::k) R a w:=
 BJ m l (λτ d=>⟨d,hr τ d⟩) (by grind)
def kpk(v:vL)(x:eU P ops i o)(hr:∀τ d,(execOp a.eval o).run P (w.tp τ d noJ)=.ok (.value v) (w.tp τ d noJ))(r:Ri v w)(m:Kp w0 w)(K:∀v l,Kp w0 l->Ks l->(dn=none->v=ud)->Ri v l->GLb P b (.inRegion ops rest::k) R (a.put dn v) l)(g:o.dst=dn:=by exact rfl)(s:b.kind≠.early:=by intro e;cases e)(q:Ks w:=by first|exact λ_ _ _ _ h=>h|exact⟨λ_ _ _ _ _ h=>h,λ_ _ h=>h⟩)(hn:dn=none->v=ud:=by intro e;cases e):GLb P b (.inRegion ops (i::rest)::k) R a w:=Zp v x s g hr q m r K hn
def rV(v:vL)(x:Obj)(s:eU P ops i o)(r:b.kind≠.early)(e:o.dst=dn)(hr:∀τ d,(execOp a.eval o).run P (w.tp τ d noJ)=.ok (.value v) ((w.tp τ d noJ).alloc x))(m:∀u,Kp w u->Ks u)(l:Kp w0 w)(q:Ri v (w.alloc x))(K:∀v g,Kp w0 g->Ks g->(dn=none->v=ud)->Ri v g->GLb P b (.inRegion ops rest::k) R (a.put dn v) g)(hn:dn=none->v=ud):GLb P b (.inRegion ops (i::rest)::k) R a w:=
 BJ (w1:=w.alloc x) s r (λτ d=>⟨d,by rw[hr,qx]⟩) (by rw[e];exact K v _ (l.trans (Kp.alloc _ _)) (m _ (Kp.alloc _ _)) hn q)
def iW{t:Tmp}{args:Array Operand}{ats:Array TypeId}(I:ops[i]? =some o)(s:o.op=.call {callee:=.value (.func f),args,argTypes:=ats})(F:o.guard=none)(A:tF P f=true)(r:P.funcs[f]? =some fn)(m:fn.results=#[.tmp t])(G:b.kind≠.early)(l:o.dst=some d)(E:args.all (aU (tF P) (tG P))=true)(D:∀v w τ d,Ri v (w.tp τ d noJ)->Ri v w)(hc:∀τ,cF P f (args.map a.eval) (w.tp τ 0 noJ) λe g=>∃v,e=rT v/\Kp w g/\Ri v g)(C:∀u,Kp w u->Ks u)(y:Kp w0 w)(K:∀v q,Kp w0 q->Ks q->(some d=none->v=ud)->Ri v q->GLb P b (.inRegion ops rest::k) R (a.put (some d) v) q):GLb P b (.inRegion ops (i::rest)::k) R a w:=
 FV (Q:=λv g=>Kp w g/\Ri v g) I s F A r m G E (λv g τ d h=>⟨Kp.tp_r.1 h.1,D v g τ d h.2⟩) hc λv J ⟨x,h2⟩=>by rw[l];exact K v J (y.trans x) (C _ x) (λe=>by cases e) h2
def o8{args:Array Operand}{ats:Array TypeId}(G:ops[i]? =some o)(s:o.op=.call {callee:=.value (.func f),args,argTypes:=ats})(E:o.guard=none)(r:P.funcs[f]? =some fn)(g:(fn.name== "runtime.NumGoroutine")=false)(q:fn.body.isNone=false)(F:b.kind≠.early)(l:o.dst=some d)(D:args.all (aU (tF P) (tG P))=true)(hc:bT P f (args.map a.eval) w λv y=>Kp w y/\Ri v y)(C:∀u,Kp w u->Ks u)(A:Kp w0 w)(K:∀v m,Kp w0 m->Ks m->(some d=none->v=ud)->Ri v m->GLb P b (.inRegion ops rest::k) R (a.put (some d) v) m):GLb P b (.inRegion ops (i::rest)::k) R a w:=
 NM G s E r g q F D hc λv I ⟨x,h2⟩=>by rw[l];exact K v I (A.trans x) (C _ x) (λe=>by cases e) h2
end
end
end Go.Tp
namespace Go.Proofs.Y
open Go.RowKit Go.Tp Go.Meter Go.Maps
variable {W W':wD} {p:Past} {t a:Int} {i b:Nat} {B:Bk}
def Zq(a0 a1 e g b0 l m q:Int)(w:wD):(Op.equalIn 10000 256 (.agg #[.int qi a0,.int qi a1,.int qi e,.int qi g]) (.agg #[.int qi b0,.int qi l,.int qi m,.int qi q])).run tP w=.ok (a0==b0&&a1==l&&e==m&&g==q) w:=by have u3:=underlying3;have y:=isAgg3;have A:=sizeOf3;rw[show (10000 :Nat)=9999+1 from rfl,Op.equalIn];simp only[Sem.run_bind,run_underlying underlying256,Result.andThen_ok];simp only[Std.Legacy.Range.forIn_eq_forIn_range',Std.Legacy.Range.size,Nat.sub_zero,Nat.add_sub_cancel,Nat.div_one,Ajh,List.range'_zero,List.forIn_cons,List.forIn_nil];go_simp;by_cases r:a0=b0<;>by_cases s:a1=l<;>by_cases h2:e=m<;>by_cases x:g=q<;>simp[r,s,h2,x]
def Zr{s:ByteArray}{n:Int}(C:s.size<=4){a0 a1 q r b0 x y A:Int}(g:gB (dgv s n) s.size=#[.int qi a0,.int qi a1,.int qi q,.int qi r])(l:gB (rdv s) s.size=#[.int qi b0,.int qi x,.int qi y,.int qi A]):
 (a0==b0&&a1==x&&q==y&&r==A)=Go.Meter.seen s n:=by
 have m:∀i,(dgv s n i==rdv s i)=(s.get! (s.size-1-i)==63||decide (n / 10^i % 10=((s.get! (s.size-1-i)).toNat:Int)-48)):=λi=>by
  unfold dgv rdv;by_cases e:s.get! (s.size-1-i)=63
  ·simp[e]
  rw[if_neg e,if_neg e,Bool.eq_iff_iff];simp[e]
 unfold gB at g l;simp only[Array.mk.injEq,List.cons.injEq,Value.int.injEq,true_and,and_true]at g l;obtain⟨rfl,rfl,rfl,rfl⟩:=g;obtain⟨rfl,rfl,rfl,rfl⟩:=l;unfold Go.Meter.seen;simp only[<-m]
 rcases(by omega:s.size=0\/s.size=1\/s.size=2\/s.size=3\/s.size=4)with e|e|e|e|e<;>simp[e,Aeg,Bool.and_assoc]
def F5{w w':wD}{V:BkV}{e:Option Nat}(h:aI w V B)(l:w.grownBy w' e)(q:∀m,e=some m->∃g c,w.heap[m]? =some (.map g c)):aI w' V B:=h.map λ_ _ _ _ hc=>rJ l q hc
def yD{w:wD}{m:Nat}{C:Int->Int->Sp->Int}(h:KnP w m C):∀j,some m=some j->∃g c,w.heap[j]? =some (.map g c):=λj e=>by cases e;exact h.isMap
def nI(B:Bk)(k:Nat)(p:Past)(i:Nat):Bool:=decide ((B.photoAt i).line≠k)||Go.Meter.seen (B.photoAt i).shows (B.shows k p (B.photoAt i).at_)
def right_eq(B:Bk)(k:Nat)(p:Past)(ks:List Nat):B.right k p ks=ks.all (nI B k p):=rfl
def c182(V:BkV)(B:Bk)(hF:B.Fine)(m k:Nat)(ks:List Nat)(qa:Option aD)(qc:Nat)(p:Past)(w:wD)(aw:aI w V B)(am:KnP w m (cnt B))(hp:p.Ok B)(hl:k<B.L.length)(aA:∀i∈ks,i<B.P.length)(hq:aF w qa (ks.map λi:Nat=>(i:Int)))(hkl:ks.length<=1000):
 cF tP 182 #[ctr V B m,.int qi (k:Int),bZ p,.slice qa ks.length qc] w λe w'=>e=rT (.bool (B.right k p ks))/\KnP w' m (cnt B)/\w.grownBy w' (some m):=by
 rw[right_eq];have Hat:=lH aw;have au:=lH am;have Hp:=lH hp;have aO:=lH aA;have Hq:=lH hq;have HF:=lH hF;have hml:=am.lt;clear aw am hp aA hq hF;have HV:Hid (∃V',V'=V):=lH ⟨_,rfl⟩;obtain⟨V',av⟩:=HV.out;have aX:=lH av;clear av;obtain⟨za,la,ca,pa,zc,lc,cc,pc⟩:=V;go_enter func182,ntmps182;go_wp2;obtain⟨W,J⟩:∃W,W=(w.alloc (.cells #[.int qi B.day,.int qi B.D,.int qi B.U,.slice za B.Z.length zc,.slice la B.L.length lc,.slice ca B.C.length cc,.slice pa B.P.length pc,.map (some m)] 115)).alloc (.cells #[.int qi p.start,.bool (p.c 0).made,.int qi (p.c 0).ans,.int qi (p.c 0).clr,.bool (p.c 1).made,.int qi (p.c 1).ans,.int qi (p.c 1).clr,.bool (p.c 2).made,.int qi (p.c 2).ans,.int qi (p.c 2).clr] 132):=⟨_,rfl⟩;have hW:Cells W [(⟨w.heap.size,0,none⟩,.int qi B.day),(⟨w.heap.size,1,none⟩,.int qi B.D),(⟨w.heap.size,2,none⟩,.int qi B.U),(⟨w.heap.size,3,none⟩,.slice za B.Z.length zc),(⟨w.heap.size,4,none⟩,.slice la B.L.length lc),(⟨w.heap.size,5,none⟩,.slice ca B.C.length cc),(⟨w.heap.size,6,none⟩,.slice pa B.P.length pc),(⟨w.heap.size,7,none⟩,.map (some m)),(⟨w.heap.size+1,0,none⟩,.int qi p.start),(⟨w.heap.size+1,1,none⟩,.bool (p.c 0).made),(⟨w.heap.size+1,2,none⟩,.int qi (p.c 0).ans),(⟨w.heap.size+1,3,none⟩,.int qi (p.c 0).clr),(⟨w.heap.size+1,4,none⟩,.bool (p.c 1).made),(⟨w.heap.size+1,5,none⟩,.int qi (p.c 1).ans),(⟨w.heap.size+1,6,none⟩,.int qi (p.c 1).clr),(⟨w.heap.size+1,7,none⟩,.bool (p.c 2).made),(⟨w.heap.size+1,8,none⟩,.int qi (p.c 2).ans),(⟨w.heap.size+1,9,none⟩,.int qi (p.c 2).clr)]:=by rw[J];simp only[Cells,and_true];go_simp
 have r:w.grownBy W none:=by rw[J];exact bY (bY (eF _ _) _) _
 have a6:W.heap.size=w.heap.size+2:=by rw[J];simp
 rw[<-J];clear J;have HW:=lH hW;have T:=lH (au.out.kept r yW);have aN:=lH (F5 Hat.out r yW);have aP:Hid (aF W qa (ks.map λi:Nat=>(i:Int))):=lH (Hq.out.map λ_ _ _ _ hc=>rJ r yW hc);have aq:Hid (w.grownBy W (some m)):=lH ⟨r.os,r.tape,r.output,r.size,λj hj _=>r.block j hj yW⟩;clear hW r Hat au Hq
 go_loopw [14] (λi wr=>W.grownBy wr (some m)/\KnP wr m (cnt B)/\∃j:Nat,j<=ks.length/\i=.int qi (j:Int)/\∀i∈ks.take j,nI B k p i=true) (λi _=>ks.length-(intOf i).toNat)
 case atStart=>exact⟨eF _ _,T.out,0,Aih _,rfl,λi hi=>by simp at hi⟩
 case round=>
  obtain⟨ay,az,j,hj,rfl,ad⟩:=hrel;have s:=lH ay;have I:=lH az;have F:=lH ad;clear ay az ad;by_cases hlt:j<ks.length
  ·have aS:=HW.out.grown s.out (yD T.out);simp only[Cells,and_true]at aS;obtain⟨qb,qo,rfl,aE⟩:=aP.out j (ks[j]) (by simp[hlt]);have a5:=rJ s.out (yD T.out) aE;have aV:=aO.out _ (Ah7 hlt);have ag:nI B k p ks[j]=true->∀i∈ks.take (j+1),nI B k p i=true:=λh i hi=>by
    rw[List.take_succ_eq_append_getElem hlt,List.mem_append,List.mem_singleton]at hi
    rcases hi with hi|rfl
    ·exact F.out i hi
    exact h
   have ae:nI B k p ks[j]=false->ks.all (nI B k p)=false:=λh=>by
    rw[Bool.eq_false_iff];intro h2;rw[Ah8]at h2;rw[h2 _ (Ah7 hlt)]at h
    cases h
   have y:=lH ag;have G:=lH ae;clear ag ae F;generalize ks[j]=i at*;have hx:B.P[i]? =some B.P[i]:=lG aV;have aJ:B.photoAt i=B.P[i]:=by unfold Bk.photoAt;rw[hx];rfl
   have aH:=HF.out.photo i _ hx;have ak:=F5 aN.out s.out (yD T.out);obtain⟨pb,po,aC,y0,y1,y2⟩:=ak.P i _ hx;simp only at aC;subst aC;have Hx:=lH aJ;have ai:=lH aH;have aM:=lH ak;have aU:=wBk wr _ y0;simp only at aU;clear hx aJ aH ak aE;generalize B.P[i]=x at*;obtain⟨xl,l,q⟩:=x;simp only at y0 y1 y2;have aY:w.heap.size<wr.heap.size:=by have:=s.out.size;omega
   have aZ:w.heap.size+1<wr.heap.size:=by have:=s.out.size;omega
   by_cases aB:xl=(k:Int)
   ·subst aB;have hN:∃N,B.shows k p l=N/\0<=N/\N<=9999:=by
     obtain⟨x,aW,an,ao⟩:=HF.out.lineAt hl;have a4:=yu ao.digits;refine⟨_,rfl,?_,?_⟩<;>(unfold Bk.shows;rw[an])
     ·exact Int.emod_nonneg _ zP
     have:=Int.emod_lt_of_pos (p.start+B.count p l) (show 0<numbers x.digits by omega);omega
    obtain⟨N,aj,aQ,aR⟩:=hN;have O:q.size<=4:=by obtain⟨x,aW,an,ao⟩:=HF.out.lineAt hl;have h1:=ai.out.form;have h2:=ao.digits;simp only[an]at h1;omega
    have aT:Nk q:=ai.out.digit;obtain⟨a0,a1,a2,a3,ha⟩:=BF (dgv q N) q.size;obtain⟨b0,b1,b2,b3,hb⟩:=BF (rdv q) q.size;have hY:=Zr O ha hb;have ap:Hid (∀u:wD,wr.grownBy u (some m)->KnP u m (cnt B)->cF tP 93 #[.agg #[.int qi B.day,.int qi B.D,.int qi B.U,.slice za B.Z.length zc,.slice la B.L.length lc,.slice ca B.C.length cc,.slice (some ⟨pb,po,none⟩) B.P.length pc,.map (some m)],.int qi (k:Int),.agg #[.int qi p.start,.bool (p.c 0).made,.int qi (p.c 0).ans,.int qi (p.c 0).clr,.bool (p.c 1).made,.int qi (p.c 1).ans,.int qi (p.c 1).clr,.bool (p.c 2).made,.int qi (p.c 2).ans,.int qi (p.c 2).clr],.int qi l] u λe u'=>e=rT (.int qi N)/\u.grownBy u' (some m)/\KnP u' m (cnt B)):=lH λu hg aa=>by rw[<-aj];exact(c93 ⟨za,la,ca,some ⟨pb,po,none⟩,zc,lc,cc,pc⟩ B HF.out m k l p u (F5 aM.out hg (yD I.out)) aa Hp.out hl (ai.out.time.2)).mono λe u' ⟨h1,h2,h3⟩=>⟨h1,h3,h2⟩
    have ab:Hid (∀u:wD,cF tP 211 #[.int qi N,.string q] u λe u'=>e=rT (.agg #[.int qi a0,.int qi a1,.int qi a2,.int qi a3])/\bX u.heap.size u u'):=lH λu=>by rw[<-ha];exact YN q N ⟨aQ,aR⟩ O u
    have ac:Hid (∀u:wD,cF tP 212 #[.string q] u λe u'=>e=rT (.agg #[.int qi b0,.int qi b1,.int qi b2,.int qi b3])/\bX u.heap.size u u'):=lH λu=>by rw[<-hb];exact c212 q O aT u
    have M:nI B k p i=Go.Meter.seen q N:=by unfold nI;rw[Hx.out];simp only[aj];simp
    have ax:=Zq a0 a1 a2 a3 b0 b1 b2 b3;rw[hY]at ax;rw[M]at y G;clear M aj ha hb hY;generalize Go.Meter.seen q N=Y at*;go_wp2;rename_i K hK;have Z:Cells (wr.alloc (.cells #[.int qi (k:Int),.int qi l,.string q] 44)).drew [(⟨w.heap.size,0,none⟩,.int qi B.day),(⟨w.heap.size,1,none⟩,.int qi B.D),(⟨w.heap.size,2,none⟩,.int qi B.U),(⟨w.heap.size,3,none⟩,.slice za B.Z.length zc),(⟨w.heap.size,4,none⟩,.slice la B.L.length lc),(⟨w.heap.size,5,none⟩,.slice ca B.C.length cc),(⟨w.heap.size,6,none⟩,.slice (some ⟨pb,po,none⟩) B.P.length pc),(⟨w.heap.size,7,none⟩,.map (some m)),(⟨w.heap.size+1,0,none⟩,.int qi p.start),(⟨w.heap.size+1,1,none⟩,.bool (p.c 0).made),(⟨w.heap.size+1,2,none⟩,.int qi (p.c 0).ans),(⟨w.heap.size+1,3,none⟩,.int qi (p.c 0).clr),(⟨w.heap.size+1,4,none⟩,.bool (p.c 1).made),(⟨w.heap.size+1,5,none⟩,.int qi (p.c 1).ans),(⟨w.heap.size+1,6,none⟩,.int qi (p.c 1).clr),(⟨w.heap.size+1,7,none⟩,.bool (p.c 2).made),(⟨w.heap.size+1,8,none⟩,.int qi (p.c 2).ans),(⟨w.heap.size+1,9,none⟩,.int qi (p.c 2).clr),(⟨wr.heap.size,0,none⟩,.int qi (k:Int)),(⟨wr.heap.size,1,none⟩,.int qi l),(⟨wr.heap.size,2,none⟩,.string q)]:=by simp only[Cells,and_true];go_simp
    have C:wr.grownBy (wr.alloc (.cells #[.int qi (k:Int),.int qi l,.string q] 44)).drew (some m):=cZ (bY (eF _ _) _) ⟨rfl,rfl,rfl,nR _,λ_ _ _=>rfl⟩;have D:KnP (wr.alloc (.cells #[.int qi (k:Int),.int qi l,.string q] 44)).drew m (cnt B):=(I.out.alloc _).kept (row:=none) ⟨rfl,rfl,rfl,nR _,λ_ _ _=>rfl⟩ yW;refine uq (z:=100) (some m) (λu=>KnP u m (cnt B)) D (λu o h=>h.alloc o) 19 0 [25,26,27,28,29,30,31,32,33,34,35,36,37,38,39,40,41,42,43] [] (λ_=>default) (λ_=>[.pointer (some ⟨wr.heap.size,0,none⟩),.int qi (k:Int),.int qi (k:Int),.bool true,.bool true,.agg #[.int qi B.day,.int qi B.D,.int qi B.U,.slice za B.Z.length zc,.slice la B.L.length lc,.slice ca B.C.length cc,.slice (some ⟨pb,po,none⟩) B.P.length pc,.map (some m)],.int qi (k:Int),.agg #[.int qi p.start,.bool (p.c 0).made,.int qi (p.c 0).ans,.int qi (p.c 0).clr,.bool (p.c 1).made,.int qi (p.c 1).ans,.int qi (p.c 1).clr,.bool (p.c 2).made,.int qi (p.c 2).ans,.int qi (p.c 2).clr],.pointer (some ⟨wr.heap.size,1,none⟩),.int qi l,.int qi N,.pointer (some ⟨wr.heap.size,2,none⟩),.string q,.agg #[.int qi a0,.int qi a1,.int qi a2,.int qi a3],.pointer (some ⟨wr.heap.size,2,none⟩),.string q,.agg #[.int qi b0,.int qi b1,.int qi b2,.int qi b3],.bool (!Y),.bool (!Y)]) xD rfl xD (λ_=>rfl) (by intro j e;cases e;have:=I.out.lt;simp;omega) λbs A hA=>?_;simp only[jk,Act.put,Ail,Ais,Ait]at hA;subst hA;generalize wr.alloc (.cells #[.int qi (k:Int),.int qi l,.string q] 44)=X at*;have E:=yD D;refine⟨?_,λu g hB _=>?_⟩
    ·iterate 5 refine dL (λu g=>by have h:=Z.grown g.1 E;simp only[Cells,and_true]at h;go_simp) ?_
     iterate 5 refine oU (λu g=>⟨rfl,by have h:=Z.grown g.1 E;simp only[Cells,and_true]at h;go_simp⟩) ?_
     refine uy 93 #[.agg #[.int qi B.day,.int qi B.D,.int qi B.U,.slice za B.Z.length zc,.slice la B.L.length lc,.slice ca B.C.length cc,.slice (some ⟨pb,po,none⟩) B.P.length pc,.map (some m)],.int qi (k:Int),.agg #[.int qi p.start,.bool (p.c 0).made,.int qi (p.c 0).ans,.int qi (p.c 0).clr,.bool (p.c 1).made,.int qi (p.c 1).ans,.int qi (p.c 1).clr,.bool (p.c 2).made,.int qi (p.c 2).ans,.int qi (p.c 2).clr],.int qi l] rfl (λu g=>by go_simp) (λu g=>ap.out u (cZ C g.1) g.2) ?_
     iterate 2 refine oU (λu g=>⟨rfl,by have h:=Z.grown g.1 E;simp only[Cells,and_true]at h;go_simp⟩) ?_
     refine uy 211 #[.int qi N,.string q] rfl (λu g=>by go_simp) (λu g=>(ab.out u).mono λe u' ⟨h1,h2⟩=>⟨h1,grown_of h2 _,g.2.kept (grown_of h2 none) yW⟩) ?_
     iterate 2 refine oU (λu g=>⟨rfl,by have h:=Z.grown g.1 E;simp only[Cells,and_true]at h;go_simp⟩) ?_
     refine uy 212 #[.string q] rfl (λu g=>by go_simp) (λu g=>(ac.out u).mono λe u' ⟨h1,h2⟩=>⟨h1,grown_of h2 _,g.2.kept (grown_of h2 none) yW⟩) ?_;refine oU (λu g=>⟨rfl,by have h:=Z.grown g.1 E;simp only[Cells,and_true]at h;go_simp⟩) ?_;refine dL (λu g=>by go_simp) rM
    refine qj (hr:=by kernel_rfl) ?_;simp only[Exit.then];have al:=cZ (cZ s.out C) g.1;have af:=cZ aq.out al;have aa:=g.2;have ah:=lH al;have ar:=lH af;have U:=lH aa;clear C Z al af aa g hB E D ax ap ab ac;refine hK _ _ ?_
    cases Y with
    |true=>
     go_wp2;go_roundw
     case rel=>exact⟨ah.out,U.out,j+1,zP,by go_num,y.out rfl⟩
     case measure=>simp[intOf];omega
    |false=>have hF:=G.out rfl;have aL:=lH hF;clear hF;go_wp2;go_ret;exact⟨by rw[aL.out];rfl,U.out,ar.out⟩
   have M:nI B k p i=true:=by unfold nI;rw[Hx.out];simp[aB]
   rw[M]at y;clear M G;go_wp2;rename_i K hK;have Z:Cells (wr.alloc (.cells #[.int qi xl,.int qi l,.string q] 44)).drew [(⟨wr.heap.size,0,none⟩,.int qi xl),(⟨wr.heap.size,1,none⟩,.int qi l),(⟨wr.heap.size,2,none⟩,.string q)]:=by simp only[Cells,and_true];go_simp
   have C:wr.grownBy (wr.alloc (.cells #[.int qi xl,.int qi l,.string q] 44)).drew (some m):=cZ (bY (eF _ _) _) ⟨rfl,rfl,rfl,nR _,λ_ _ _=>rfl⟩;have D:KnP (wr.alloc (.cells #[.int qi xl,.int qi l,.string q] 44)).drew m (cnt B):=(I.out.alloc _).kept (row:=none) ⟨rfl,rfl,rfl,nR _,λ_ _ _=>rfl⟩ yW;refine uw (z:=100) none 19 0 [25,26,27,28,29,30,31,32,33,34,35,36,37,38,39,40,41,42,43] [] (λ_=>default) (λ_=>[.pointer (some ⟨wr.heap.size,0,none⟩),.int qi xl,.int qi (k:Int),.bool false,.bool false,ud,ud,ud,ud,ud,ud,ud,ud,ud,ud,ud,ud,ud,.bool false]) xD rfl xD (λ_=>rfl) yW λbs A hA=>?_;simp only[jk,Act.put,Ail,Ais,Ait]at hA;subst hA;generalize wr.alloc (.cells #[.int qi xl,.int qi l,.string q] 44)=X at*;refine⟨?_,λu g hB _=>?_⟩
   ·iterate 5 refine dL (λu g=>by have h:=Z.grown g.1 yW;simp only[Cells,and_true]at h;go_simp) ?_
    iterate 13 refine Fv rfl ?_
    refine dL (λu g=>by go_simp) rM
   refine qj (hr:=by kernel_rfl) ?_;simp only[Exit.then];have aG:X.drew.grownBy u (some m):=⟨g.1.os,g.1.tape,g.1.output,g.1.size,λj hj _=>g.1.block j hj yW⟩;have ah:=lH (cZ (cZ s.out C) aG);have U:=lH (D.kept g.1 yW);clear C Z aG g hB D;refine hK _ _ ?_;go_wp2;go_roundw
   case rel=>exact⟨ah.out,U.out,j+1,zP,by go_num,y.out trivial⟩
   case measure=>simp[intOf];omega
  have e:j=ks.length:=zP
  subst e;have hT:ks.all (nI B k p)=true:=by rw[Ah8];exact λi hi=>F.out i (by rw[List.take_length];exact hi)
  have HT:=lH hT;clear hT;go_wp2;go_ret;exact⟨by rw[HT.out];rfl,I.out,cZ aq.out s.out⟩
structure yE (B:Bk) (l N:Nat) (Rd:Nat->Prop) (J:List Past->(Nat->Prop)->wD->Prop):Prop where
 alloc:∀q O W o,J q O W->J q (λb=>O b\/b=W.heap.size) (W.alloc o)
 write:∀q O W b j v,J q O W->O b->J q O (W.setCell ⟨b,j,none⟩ v)
 round:∀q x O W,J q O W->q.length<N->x.Ok B->YieldAt Fence.wide 0 tP l #[bZ x] W λe W'=>e=rT (.bool true)/\J (q++[x]) O W'/\W.heap.size<=W'.heap.size/\∀b,b<W.heap.size->O b\/Rd b->W'.heap[b]? =W.heap[b]?
structure uD (B:Bk) (Rd O:Nat->Prop) (l k bb yb lb mb:Nat) (cl:Option aD) (cc:Nat) (W:wD):Prop where
 rb:Rd bb
 rl:Rd lb
 oy:O yb
 om:O mb
 c5:W.cell? ⟨bb,5,none⟩=some (.slice cl B.C.length cc)
 cy:W.cell? ⟨yb,0,none⟩=some (.func (.yield l) #[] #[])
 ck:W.cell? ⟨lb,0,none⟩=some (.int qi (k:Int))
 cm:W.cell? ⟨mb,0,none⟩=some (.func (.func 210) #[] #[.pointer (some ⟨bb,0,none⟩),.pointer (some ⟨yb,0,none⟩),.pointer (some ⟨lb,0,none⟩),.pointer (some ⟨mb,0,none⟩)])
 C:∀(i:Nat) (z:Cl),B.C[i]? =some z->∃b o,cl=some ⟨b,o,none⟩/\Rd b/\Cells W [(⟨b,o+i*7,none⟩,.int qi z.line),(⟨b,o+i*7+1,none⟩,.int qi z.far),(⟨b,o+i*7+2,none⟩,.int qi z.a0),(⟨b,o+i*7+3,none⟩,.int qi z.a1),(⟨b,o+i*7+4,none⟩,.int qi z.c0),(⟨b,o+i*7+5,none⟩,.int qi z.c1),(⟨b,o+i*7+6,none⟩,.int qi z.made)]
def dD{p:aD}{v:vL}(h:W.cell? p=some v)(e:p.block<W.heap.size->W'.heap[p.block]? =W.heap[p.block]?):W'.cell? p=some v:=by rw[World.cell?_of_block (w:=W) (e (wBk W _ h))];exact h
theorem Cells.keep(e:b<W.heap.size->W'.heap[b]? =W.heap[b]?):∀{l:List (aD×vL)},(∀x∈l,x.1.block=b)->Cells W l->Cells W' l
 |[],_,_=>trivial
 |x::_,hb,h=>⟨dD h.1 (by rw[hb x (Aah ..)];exact e),Cells.keep e (λy g=>hb y (List.mem_cons_of_mem _ g)) h.2⟩
theorem uD.keep{Rd O g:Nat->Prop}{l k bb C lb A:Nat}{m:Option aD}{cc:Nat}(h:uD B Rd O l k bb C lb A m cc W)(y:∀b,O b->g b)(e:∀b,b<W.heap.size->O b\/Rd b->W'.heap[b]? =W.heap[b]?):uD B Rd g l k bb C lb A m cc W':=by obtain⟨r,h2,s,h4,h5,h6,F,G,I⟩:=h;refine⟨r,h2,y _ s,y _ h4,dD h5 λx=>e _ x (.inr r),dD h6 λx=>e _ x (.inl s),dD F λx=>e _ x (.inr h2),dD G λx=>e _ x (.inl h4),λi z J=>?_⟩;obtain⟨b,o,D,q,E⟩:=I i z J;exact⟨b,o,D,q,E.keep (b:=b) (λx=>e _ x (.inr q)) yW⟩
def dQ(p:Past):Array vL:=#[.int qi p.start,.bool (p.c 0).made,.int qi (p.c 0).ans,.int qi (p.c 0).clr,.bool (p.c 1).made,.int qi (p.c 1).ans,.int qi (p.c 1).clr,.bool (p.c 2).made,.int qi (p.c 2).ans,.int qi (p.c 2).clr]
def iI(W:wD)(b:Nat)(p:Past):Prop:=W.heap[b]? =some (.cells (dQ p) 132 (0,0))
def iI.cells{W:wD}{b:Nat}{p:Past}(h:iI W b p):Cells W [(⟨b,0,none⟩,.int qi p.start),(⟨b,1,none⟩,.bool (p.c 0).made),(⟨b,2,none⟩,.int qi (p.c 0).ans),(⟨b,3,none⟩,.int qi (p.c 0).clr),(⟨b,4,none⟩,.bool (p.c 1).made),(⟨b,5,none⟩,.int qi (p.c 1).ans),(⟨b,6,none⟩,.int qi (p.c 1).clr),(⟨b,7,none⟩,.bool (p.c 2).made),(⟨b,8,none⟩,.int qi (p.c 2).ans),(⟨b,9,none⟩,.int qi (p.c 2).clr)]:=by unfold iI at h;simp[Cells,World.cell?,h,dQ]
def F6(Rd:Nat->Prop)(J:List Past->(Nat->Prop)->wD->Prop)(q:List Past)(O:Nat->Prop)(W:wD)(e:Ending)(W':wD):Prop:=
 e=rT (.bool true)/\∃g,(∀b,O b->g b)/\(∀b,g b->b<W'.heap.size)/\J q g W'/\W.heap.size<=W'.heap.size/\∀b,b<W.heap.size->O b\/Rd b->W'.heap[b]? =W.heap[b]?
def Zt(B:Bk)(l N:Nat)(Rd O:Nat->Prop)(J:List Past->(Nat->Prop)->wD->Prop)(R:yE B l N Rd J)(k bb I lb F:Nat)(M:Option aD)(cc:Nat)(q:List Past)(p:Past)(X:p.Ok B)(U:q.length<N)(W:wD)(s:J q O W)(r:∀b,O b->b<W.heap.size)(E:uD B Rd O l k bb I lb F M cc W):
 cF tP 210 #[bZ p,.int qi (B.C.length:Int),.pointer (some ⟨bb,0,none⟩),.pointer (some ⟨I,0,none⟩),.pointer (some ⟨lb,0,none⟩),.pointer (some ⟨F,0,none⟩)] W (F6 Rd J (q++[p]) O W):=by
 refine callsIn_wide (n:=1).1 (callsIn_of_wp func210 rfl trivial ?_);simp only[ntmps210,List.size_toArray,Ah9,List.length_nil,Nat.reduceAdd,Nat.reduceSub,Array.replicate_succ,Array.replicate_zero,List.push_toArray,List.append_toArray,List.nil_append,List.cons_append];have g:=R.alloc q O W (.cells (dQ p) 132) s;obtain⟨fn,G,m,C,Z,D⟩:=R.round q p _ _ g U X;have K:=E.c5;have T:=E.cy;have h5:=wBk W _ K;have h6:=wBk W _ T;simp only at h5 h6;have HJ:=lH s;have HE:=lH E;clear s E g;simp only[dQ]at Z D
 gi_wp2_with (refine D.mono ?_;rintro e w3 ⟨rfl,x,A,y⟩)
 gi_wp2
 go_ret;have Y:W.heap.size<w3.heap.size:=by simp at A;omega
 refine⟨rfl,λb=>O b\/b=W.heap.size,λb h=>.inl h,λb h=>?_,x,zP,λb V h=>?_⟩
 ·rcases h with h|h
  ·have:=r b h;omega
  omega
 rw[y b xL (h.elim (λh=>.inl (.inl h)) .inr),Below.heap_alloc _ _ _ V]
def rW(h:a<=t):bg a t=bg a (t-1)++[t]:=by
 unfold bg;have e:(t+1-a).toNat=(t-1+1-a).toNat+1:=zP
 rw[e,Aeg,Aib];simp;omega
def qB(h:t<a):bg a t=[]:=by unfold bg;rw[show (t+1-a).toNat=0 by omega];rfl
def F7{α:Type}(f:Int->List α){b:Int}(h:t<=b):((bg a t).flatMap f).length<=((bg a b).flatMap f).length:=by
 obtain⟨n,rfl⟩:∃n:Nat,b=t+n:=⟨(b-t).toNat,zP⟩;clear h
 induction n with
 |zero=>simp
 |succ n ih=>
  refine Agd ih ?_;by_cases h:a<=t+((n+1 :Nat):Int)
  ·rw[rW h,List.flatMap_append,List.length_append,show t+((n+1 :Nat):Int)-1=t+n by omega];omega
  rw[qB zP,qB zP];simp
def yieldT(k:Int)(cs:List Cl)(i:Nat)(p:Past)(z:Cl)(t:Int):List Past:=(bg (max t z.c0) z.c1).flatMap λu=>moreL k cs (i+1) (p.set i ⟨true,t,u⟩)
def F8(k:Int)(z:Cl)(cs:List Cl)(i:Nat)(p:Past):moreL k (z::cs) i p=(if z.line≠k\/z.made=0 then moreL k cs (i+1) p else[])++(if z.line≠k then[]else(times z).flatMap λx=>moreL k cs (i+1) (p.set i ⟨true,x.1,x.2⟩)):=rfl
def Zu{k:Int}{z:Cl}{cs:List Cl}(h:z.line=k):moreL k (z::cs) i p=(if z.made=0 then moreL k cs (i+1) p else[])++(bg z.a0 z.a1).flatMap (yieldT k cs i p z):=by
 rw[F8];simp only[h,ne_eq,not_true_eq_false,false_or,if_false];unfold times;rw[List.flatMap_assoc]
 congr 1
 congr 1
 funext t
 unfold yieldT;rw[List.flatMap_map]
def Zv{k:Int}{z:Cl}{cs:List Cl}(h:z.line≠k):moreL k (z::cs) i p=moreL k cs (i+1) p:=by rw[F8];simp[h]
theorem Past.Ok.set(h:p.Ok B)(g:i<B.C.length){u:Int}(m:0<=t/\t<=200)(q:0<=u/\u<=200):(p.set i ⟨true,t,u⟩).Ok B:=by
 refine⟨h.1,λj l=>?_⟩;unfold Past.set;by_cases e:j=i
 ·subst e;simp only[if_true];exact⟨λ_=>⟨g,m,q⟩,λh=>by cases h⟩
 simp only[e,if_false];exact h.2 j l
def Zw(p:Past)(i:Nat):dQ (p.set i (p.c i))=dQ p:=by
 have e:∀j,(p.set i (p.c i)).c j=p.c j:=λj=>by
  unfold Past.set;by_cases e:j=i
  ·subst e;simp
  simp[e]
 unfold dQ;rw[e 0,e 1,e 2];rfl
def set_set(p:Past)(i:Nat)(s s':Sp):(p.set i s).set i s'=p.set i s':=by
 unfold Past.set
 congr 1
 funext j
 by_cases e:j=i<;>simp[e]
def iI.store(h:iI W b p)(e:i<3)(s:Sp):iI (((W.setCell ⟨b,1+i*3,none⟩ (.bool s.made)).setCell ⟨b,1+i*3+1,none⟩ (.int qi s.ans)).setCell ⟨b,1+i*3+2,none⟩ (.int qi s.clr)) b (p.set i s):=by
 unfold iI at*;have:(((W.setCell ⟨b,1+i*3,none⟩ (.bool s.made)).setCell ⟨b,1+i*3+1,none⟩ (.int qi s.ans)).setCell ⟨b,1+i*3+2,none⟩ (.int qi s.clr)).heap[b]? =some (.cells ((((dQ p).setIfInBounds (1+i*3) (.bool s.made)).setIfInBounds (1+i*3+1) (.int qi s.ans)).setIfInBounds (1+i*3+2) (.int qi s.clr)) 132 (0,0)):=by simp[World.setCell,Array.getElem?_modify,h]
 rw[this]
 match i,e with
 |0,_|1,_|2,_=>simp[dQ,Past.set]
theorem iI.at{W:wD}{b i:Nat}{p:Past}(h:iI W b p)(e:i<3):∃x y z,(W.cell? ⟨b,1+i*3,none⟩=some x/\W.cell? ⟨b,1+i*3+1,none⟩=some y/\W.cell? ⟨b,1+i*3+2,none⟩=some z)/\∀j,W.frozen? ⟨b,j,none⟩=false:=by
 unfold iI at h;refine⟨.bool (p.c i).made,.int qi (p.c i).ans,.int qi (p.c i).clr,?_,by simp[World.frozen?,h]⟩
 match i,e with
 |0,_|1,_|2,_=>simp[World.cell?,h,dQ]
end Go.Proofs.Y
