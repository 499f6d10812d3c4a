/- Part of a proof; no conditions. -/
import Derived.Test.YtokgkggocgpcfaaGreatDoorCheap06
import Derived.Laws.RangeAny
import Derived.Lib.OthersKept
import Derived.DeepKeys4
import Derived.Maps.OwnOps
import Derived.Maps.OwnSet
import Derived.Maps.Views
import Derived.LoopN
open List renaming getElem?_eq_getElem->lG,findIdx?_eq_some_iff_getElem->Aik,setIfInBounds_toArray->Ail,getElem?_take_of_lt->Aim,mem_cons_of_mem->Rf,mem_of_getElem?->Aiq,set_cons_zero->Ais,set_cons_succ->Ait,mem_cons_self->Aah,getElem?_map->Aiy,all_eq_true->Ah8,getElem_mem->Ah7,mem_flatMap->Ai1,length_cons->Ah9,range_succ->Aeg,mem_range->Aid,map_cons->Ai6,mem_cons->Ab3,range->Aes,getElem?_eq_some_iff->lS
open Go.World renaming block_lt_of_cell?->wBk,frozen?_of_block->Aio,cell?_of_block->Ah0,ownsRow_nil->Aiz,size_alloc->Ai2,iterPos->Ai7,frozen?->Aem,cell?->Aeq
open Go.Lib renaming hid->lH,run_next_end_at->Aip,iterAt_other->Air,iterAt_heap->Aiw
open Nat renaming le_refl->nR,add_sub_cancel->Aiu,zero_le->Aih
open Go.MapKept renaming heap_alloc->Aiv
open Bool renaming false_eq_true->kF,not_eq_false->Ai0,and_eq_true->Aal,or_eq_true->Afd,eq_iff_iff->Ai4
open Go.RowKit.Below renaming refl->bR,heap_setCell->Aix,heap_alloc->Ai3
open Go.IntWalk renaming i64_in->Ai5
open Go renaming Calls->cF,Value->vL,World->wD,bodyPost_ret->Ai8,rounds_succ->Aja,wpList->Ajc,Oper->Ajd,undef->ud
open Go.Utf8 renaming decode->Ai9
open Go.Instr renaming index->Ac2,next->Adi
open And renaming intro->Ajb
open Go.RowKit renaming Below->bX
open Go.IntKind renaming i64->qi
open Go.Value renaming int->iN,slice->sL,pointer->pN
open Go.Ending renaming returned->rT
open Go.Obj renaming cells->cL
open Go.Proofs.Tryz renaming prog->tP
open Array renaming getElem?_eq_some_iff->aS
open Go.Proofs.Tryz
set_option maxRecDepth 100000
set_option maxHeartbeats 4000000
set_option linter.all false
namespace Go.Proofs.Y
open Go.RowKit Go.Tp Go.Meter
def MQ(n:Nat)(p:Pt):List (Addr×vL):=[(⟨n,0,none⟩,iN qi p.line),(⟨n,1,none⟩,iN qi p.at_),(⟨n,2,none⟩,.string p.shows)]
def gW(r:Int):Bool:=r==63||btw r 48 57
def nC(s:ByteArray):Bool:=s.data.toList.all λc=>gW (c.toNat:Int)
def Fz{s:ByteArray}{k:Nat}(h:k<s.size):nC s=true->gW ((s[k]'h).toNat:Int)=true:=λc=>by unfold nC at c;rw[Ah8]at c;exact c _ (Array.mem_toList_iff.2 (Array.getElem_mem (xs:=s.data) h))
def MR{s:ByteArray}(h:∀k (h:k<s.size),gW ((s[k]'h).toNat:Int)=true):nC s=true:=by
 unfold nC;rw[Ah8];intro c hc;obtain⟨i,e,rfl⟩:=List.getElem_of_mem hc;have d:i<s.size:=by simpa using e
 exact h i d
def jm(B:Bk)(p:Pt):Int:=if btw p.line 0 ((B.L.length:Int)-1)=false then 6 else if btw p.at_ 0 200=false then 1 else if ¬(p.shows.size:Int)=(B.lineAt p.line).digits then 3 else if nC p.shows=false then 3 else 0
def fF(B:Bk):List Pt->Int
 |[]=>0
 |c::l=>if jm B c=0 then fF B l else jm B c
def jo(B:Bk):Int:=if 5<B.P.length then 2 else fF B B.P
def MS{B:Bk}{l:List Pt}{k:Nat}{c:Pt}(h:l[k]? =some c):fF B (l.drop k)=if jm B c=0 then fF B (l.drop (k+1))else jm B c:=by
 obtain⟨d,rfl⟩:=lS.1 h
 conv=>lhs;rw[List.drop_eq_getElem_cons d];unfold fF
def MV{B:Bk}{l:List Pt}{k:Nat}(h:l.length<=k):fF B (l.drop k)=0:=by rw[List.drop_of_length_le h];rfl
def Yx(V:BkV)(B:Bk)(w:wD)(ad:aI w V B)(ag:B.L.length<1000)(hn:B.P.length<=1000)(ai:∀p∈B.P,p.shows.size<=1000000):cF tP 241 #[V.val B] w λe Y=>e=rT (iN qi (jo B))/\bX w.heap.size w Y:=by
 obtain⟨za,la,ca,pa,zc,lc,cc,pc⟩:=V;have Hat:=lH ad;have aj:=lH ai;clear ad ai;by_cases Z:5<B.P.length
 ·have ac:(5 :Int)<(B.P.length:Int):=zP
  go_enter func241,ntmps241;go_wp2;go_ret;exact⟨by simp[jo,Z],(bR _ _).alloc (nR _) _⟩
 have Ha:Hid (jo B=fF B (B.P.drop 0)):=lH (by simp[jo,Z]);have ac:¬(5 :Int)<(B.P.length:Int):=zP
 go_enter func241,ntmps241;go_wp2;clear Z ac
 go_loopw [16] (λi wr=>∃k:Nat,k<=B.P.length/\i=iN qi (k:Int)/\Hid (jo B=fF B (B.P.drop k))/\Hid (bX w.heap.size w wr)/\Hid (Cells wr (aB w.heap.size ⟨za,la,ca,pa,zc,lc,cc,pc⟩ B))) (λi _=>B.P.length-(intOf i).toNat)
 case atStart=>exact⟨0,Aih _,rfl,Ha,lH ((bR _ _).alloc (nR _) _),lH (by simp only[aB,Cells,and_true];go_simp)⟩
 case round=>
  obtain⟨k,hk,rfl,Hz,Hb,Hc⟩:=hrel;by_cases hlt:k<B.P.length
  ·have hx:B.P[k]? =some B.P[k]:=lG hlt;have ah:=aj.out _ (Ah7 hlt);obtain⟨b,o,hza,y0,y1,y2⟩:=(Hat.out.below Hb.out (nR _)).P k _ hx;simp only at hza;subst hza;have hat2:=MS (B:=B) hx;have hbw:=wBk wr _ y0;obtain⟨b0,b1,b2,b3,b4,b5,b6,-⟩:=Hc.out;have hww:=wBk wr _ b0;simp only at hbw hww;generalize B.P[k]=z at*;obtain⟨U,pt,c⟩:=z;simp only at y0 y1 y2 ah;have Hat2:=lH hat2;clear hx hat2;have hc:Cells (wr.alloc (cL #[iN qi U,iN qi pt,.string c] 44)) (MQ wr.heap.size ⟨U,pt,c⟩):=by simp only[MQ,Cells,and_true];go_simp
   obtain⟨HF,g,-⟩:=MO Hat.out (Hb.out.alloc Hb.out.size _) hc (gV ((bR wr.heap.size wr).alloc (nR _) _) (nR _) Hc.out);clear hc
   cases h2:btw U 0 ((B.L.length:Int)-1);rotate_left
   cases h3:btw pt 0 200;rotate_left 2
   iterate 2
    ·go_wp2_with (first|(go_at_call 114;refine(dK _ _ _ _).mono ?_;rintro e Y ⟨rfl,rfl⟩)|(go_at_call 82;refine(c82 ⟨za,la,ca,some ⟨b,o,none⟩,zc,lc,cc,pc⟩ B U _ ag).mono ?_;rw[h2];rintro e d ⟨rfl,D⟩;have Hn:=HF.out _ (g.out.trans (D.mono g.out.size));clear D g;obtain⟨g,q,ab,R,S⟩:=Hn;obtain⟨n0,n1,n2,-⟩:=R;obtain⟨m0,m1,m2,m3,m4,m5,m6,-⟩:=S)|(go_at_call 109;refine(c109 _ _).mono ?_;try rw[h3];rintro e Y ⟨rfl,rfl⟩))
     go_ret;exact⟨by rw[Hz.out,Hat2.out];simp[jm, *],q.out⟩
   go_upto_region 10 with(first|(go_at_call 114;refine(dK _ _ _ _).mono ?_;rintro e Y ⟨rfl,rfl⟩)|(go_at_call 82;refine(c82 ⟨za,la,ca,some ⟨b,o,none⟩,zc,lc,cc,pc⟩ B U _ ag).mono ?_;rw[h2];rintro e d ⟨rfl,D⟩;have Hn:=HF.out _ (g.out.trans (D.mono g.out.size));clear D g;obtain⟨g,q,ab,R,S⟩:=Hn;obtain⟨n0,n1,n2,-⟩:=R;obtain⟨m0,m1,m2,m3,m4,m5,m6,-⟩:=S)|(go_at_call 109;refine(c109 _ _).mono ?_;try rw[h3];rintro e Y ⟨rfl,rfl⟩))
   have ao:=bJ h2;obtain⟨I,rfl⟩:∃I:Nat,U=(I:Int):=⟨U.toNat,zP⟩;have am:I<B.L.length:=zP
   have T:B.L[I]? =some B.L[I]:=lG am;have ae:B.lineAt (I:Int)=B.L[I]:=by unfold Bk.lineAt;rw[Int.toNat_natCast,T];rfl
   obtain⟨lb,lo,af,x0,x1,x2,x3⟩:=ab.out.L I _ T;simp only at af;subst af;generalize B.L[I]=xl at*;obtain⟨xn,xd,ar,au⟩:=xl;simp only at x0 x1 x2 x3;have Q:=lH ae;clear T ae x0 x2 x3;by_cases h4:(c.size:Int)=xd
   ·have ak:((c.size:Int) !=xd)=false:=by simp[h4]
    have an:Hid (c.size<=1000000):=lH ah
    go_quiet (fail)
    go_wp2;have HD:Hid (bX d.heap.size d ((d.drewN nq).iter c 0)):=lH ((below_drewN (bR _ _) _).alloc yW _);have L:((d.drewN nq).iter c 0).heap[d.heap.size]? =some (.stringIter c 0):=(Aiv (d.drewN nq) (.stringIter c 0)).1;have Hm:Hid (Cells d (aB w.heap.size ⟨za,some ⟨lb,lo,none⟩,ca,some ⟨b,o,none⟩,zc,lc,cc,pc⟩ B)):=lH (by simp only[aB,Cells,and_true];exact⟨m0,m1,m2,m3,m4,m5,m6⟩);have aq:w.heap.size<d.heap.size:=by have:=wBk d _ m0;simpa using this
    clear m0 m1 m2 m3 m4 m5 m6 n0 n1 n2 b0 b1 b2 b3 b4 b5 b6 y0 y1 y2 x1
    go_loopw [] (λwq=>∃j:Nat,j<=c.size/\Hid (∀(i:Nat) (h:i<c.size),i<j->gW ((c[i]'h).toNat:Int)=true)/\Hid (wq.heap[d.heap.size]? =some (.stringIter c j))/\Hid (bX d.heap.size d wq)) (λwq=>c.size-wq.iterPos d.heap.size)
    case atStart=>exact⟨0,Aih _,lH λi h hi=>zP,lH L,HD⟩
    case round=>
     clear L;obtain⟨j,hj,Hd,G,P⟩:=hrel;have F:=show wr.iterPos d.heap.size=j by simp[Ai7,G.out]
     have J:=lH F;clear F;by_cases hjl:j<c.size
     ·obtain⟨r,M⟩:∃r:Nat,r=(Ai9 c j).1:=⟨_,rfl⟩;have ap:r<=2147483647:=by rw[M];exact decode_le c j
      have E:gW (r:Int)=true->(Ai9 c j).2=1/\gW ((c[j]'hjl).toNat:Int)=true:=λh=>by
       by_cases ha:(c[j]'hjl).toNat<128
       ·rw[decode_ascii c j hjl ha]at M⊢;rw[M]at h;exact⟨rfl,h⟩
       have:=decode_high c j hjl zP;rw[M]at h;simp only[gW,btw,Afd,beq_iff_eq,decide_eq_true_eq]at h;omega
      have K:gW (r:Int)=false->nC c=false:=λh=>by
       cases hd:nC c with
       |false=>rfl
       |true=>
        have Z:=Fz hjl hd;have ha:(c[j]'hjl).toNat<128:=by simp only[gW,btw,Afd,beq_iff_eq,decide_eq_true_eq]at Z;omega
        rw[decode_ascii c j hjl ha]at M;rw[M,Z]at h
        cases h
      have al:∀X,(Adi (pN (some ⟨d.heap.size,0,none⟩)) true X).run tP wr=.ok (.tuple #[.bool true,iN qi j,.int .i32 (r:Nat)]) (wr.iterAt d.heap.size c (j+(Ai9 c j).2)):=λX=>by rw[M];exact Go.Lib.run_next_any_at wr _ c j X G.out hjl
      have N:(wr.iterAt d.heap.size c (j+(Ai9 c j).2)).heap[d.heap.size]? =some (.stringIter c (j+(Ai9 c j).2)):=Aiw wr _ c j _ G.out;have O:bX d.heap.size d (wr.iterAt d.heap.size c (j+(Ai9 c j).2)):=P.out.trans ⟨rfl,rfl,rfl,by simp[World.iterAt],λi hi=>Air _ _ _ _ _ zP⟩;generalize wr.iterAt d.heap.size c (j+(Ai9 c j).2)=wi at*;have l:=lH N;have A:=lH O;have f:=lH E;have aa:=lH K;clear N O E K M
      cases H:((r:Int) != 63)with
      |false=>
       have t:Hid (gW (r:Int)=true):=lH (by simp at H;simp[gW,H]);have hm:¬(r:Int)≠63:=by simpa using H
       go_wp2;go_roundw
       case rel=>
        obtain⟨W,q2⟩:=f.out t.out;refine⟨j+1,zP,lH λi h hi=>?_,lH (by have:=l.out;rwa [W]at this),A⟩;by_cases e:i=j
        ·subst e;exact q2
        exact Hd.out i h zP
       ·obtain⟨W,q2⟩:=f.out t.out;have h9:=l.out;rw[W]at h9;rw[J.out];simp only[Ai7,h9];omega
      |true=>
       cases hb:btw (r:Int) 48 57 with
       |true=>
        have t:Hid (gW (r:Int)=true):=lH (by simp[gW,hb])
        go_wp2_with (go_at_call 114;refine(dK _ _ _ _).mono ?_;rw[hb];rintro e Y ⟨rfl,rfl⟩)
        go_roundw
        case rel=>
         obtain⟨W,q2⟩:=f.out t.out;refine⟨j+1,zP,lH λi h hi=>?_,lH (by have:=l.out;rwa [W]at this),A⟩;by_cases e:i=j
         ·subst e;exact q2
         exact Hd.out i h zP
        ·obtain⟨W,q2⟩:=f.out t.out;have h9:=l.out;rw[W]at h9;rw[J.out];simp only[Ai7,h9];omega
       |false=>
        have HR:Hid (fF B (B.P.drop k)=3):=lH (by have h5:=aa.out (by simp only[gW,hb,Bool.or_false];simpa using H);rw[Hat2.out];simp[jm,h2,h3,Q.out,h4,h5])
        go_wp2_with (go_at_call 114;refine(dK _ _ _ _).mono ?_;rw[hb];rintro e Y ⟨rfl,rfl⟩)
        go_ret;exact⟨by rw[Hz.out,HR.out];rfl,q.out.trans (A.out.mono zP)⟩
     have al:∀X,(Adi (pN (some ⟨d.heap.size,0,none⟩)) true X).run tP wr=.ok (.tuple #[.bool false]) wr:=λX=>Aip wr _ c j X G.out hjl;have HR:Hid (fF B (B.P.drop k)=fF B (B.P.drop (k+1))):=lH (by have h5:nC c=true:=MR λi h=>Hd.out i h zP;rw[Hat2.out,if_pos (by simp[jm,h2,h3,Q.out,h4,h5])])
     go_wp2;go_roundw
     case rel=>exact⟨k+1,zP,by go_num,lH (Hz.out.trans HR.out),lH (q.out.trans (P.out.mono zP)),lH (gV P.out (nR _) Hm.out)⟩
     ·simp[intOf];omega
   have ak:((c.size:Int) !=xd)=true:=by simp[h4]
   have HR:Hid (fF B (B.P.drop k)=3):=lH (by rw[Hat2.out];simp[jm,h2,h3,Q.out,h4])
   go_quiet (fail)
   go_wp2;go_ret;exact⟨by rw[Hz.out,HR.out];rfl,below_drewN q.out _⟩
  have hke:B.P.length<=k:=zP
  go_wp2;go_ret;exact⟨by rw[Hz.out,MV hke];rfl,Hb.out⟩
structure dO (w:wD) (V:BkV) (B:Bk):Prop where
 at_:aI w V B
 nz:B.Z.length<1000
 nl:B.L.length<1000
 nc:B.C.length<1000
 np:B.P.length<1000
 lc:B.L.length<=V.lc/\V.lc<=9223372036854775807
 ps:∀p∈B.P,p.shows.size<=1000000
theorem dO.below{n:Nat}{w w':wD}{V:BkV}{B:Bk}(h:dO w V B)(c:bX n w w')(hn:w.heap.size<=n):dO w' V B:=⟨h.at_.below c hn,h.nz,h.nl,h.nc,h.np,h.lc,h.ps⟩
structure dP (w:wD):Prop where
 c0:w.cell? ⟨0,0,none⟩=some (.func (.func 237) #[] #[])
 c1:w.cell? ⟨0,1,none⟩=some (.func (.func 238) #[] #[])
 c2:w.cell? ⟨0,2,none⟩=some (.func (.func 239) #[] #[])
 c3:w.cell? ⟨0,3,none⟩=some (.func (.func 240) #[] #[])
 c4:w.cell? ⟨0,4,none⟩=some (.func (.func 241) #[] #[])
def dP.below{n:Nat}{w w':wD}(h:dP w)(c:bX n w w')(hn:w.heap.size<=n):dP w':=⟨fM c h.c0 hn,fM c h.c1 hn,fM c h.c2 hn,fM c h.c3 hn,fM c h.c4 hn⟩
def alK(B:Bk):Nat->Int
 |0=>kE B
 |1=>ji B
 |2=>jl B
 |3=>iH B
 |_=>jo B
def vV(B:Bk):Nat->Nat->Int
 |0,_=>0
 |n+1,k=>if alK B k=0 then vV B n (k+1)else alK B k
def aV(B:Bk):Int:=vV B 5 0
def c72(V:BkV)(B:Bk)(w:wD)(G:dO w V B)(K:dP w):cF tP 72 #[V.val B] w λe M=>e=rT (iN qi (aV B))/\bX w.heap.size w M:=by
 obtain⟨za,la,t,pa,zc,lc,cc,pc⟩:=V;have I:=lH G;obtain⟨L,v1,v2,v3,v4⟩:=K;have E:=wBk w _ L;simp only at E;clear G;have O:∀d f g l p w,(Ac2 173 (.agg #[d,f,g,l,p]) (iN qi 0)).run tP w=.ok d w:=λ_ _ _ _ _ _=>by kernel_rfl
 have P:∀d f g l p w,(Ac2 173 (.agg #[d,f,g,l,p]) (iN qi 1)).run tP w=.ok f w:=λ_ _ _ _ _ _=>by kernel_rfl
 have Q:∀d f g l p w,(Ac2 173 (.agg #[d,f,g,l,p]) (iN qi 2)).run tP w=.ok g w:=λ_ _ _ _ _ _=>by kernel_rfl
 have R:∀d f g l p w,(Ac2 173 (.agg #[d,f,g,l,p]) (iN qi 3)).run tP w=.ok l w:=λ_ _ _ _ _ _=>by kernel_rfl
 have S:∀d f g l p w,(Ac2 173 (.agg #[d,f,g,l,p]) (iN qi 4)).run tP w=.ok p w:=λ_ _ _ _ _ _=>by kernel_rfl
 have H:Hid (aV B=vV B 5 0):=lH rfl;go_enter func72,ntmps72
 go_wp2_with fail
 go_loopw [7] (λi wr=>∃k:Nat,k<=5/\i=iN qi (k:Int)/\Hid (aV B=vV B (5-k) k)/\Hid (bX w.heap.size w wr)/\Hid (Cells wr (aB w.heap.size ⟨za,la,t,pa,zc,lc,cc,pc⟩ B))) (λi _=>5-(intOf i).toNat)
 case atStart=>exact⟨0,zP,rfl,H,lH ((bR _ _).alloc (nR _) _),lH (by simp only[aB,Cells,and_true];go_simp)⟩
 case round=>
  obtain⟨k,N,rfl,r,Hb,F⟩:=hrel;have c:=lH (I.out.below Hb.out (nR _));have J:=F.out;obtain⟨T,U,W,X,Y,Z,q6,-⟩:=J;by_cases h5:k=5
  ·subst h5;go_wp2;go_ret;exact⟨by rw[r.out];rfl,Hb.out⟩
  obtain⟨n,hn⟩:∃n,n=k+1:=⟨_,rfl⟩;by_cases D:alK B k=0;have Ha:=lH D
  all_goals
   obtain rfl|rfl|rfl|rfl|rfl:k=0\/k=1\/k=2\/k=3\/k=4:=zP
  all_goals
   simp only[alK]at D
   go_wp2_with ((first|(go_at_call 237;refine(X0 ⟨za,la,t,pa,zc,lc,cc,pc⟩ B _).mono ?_;try rw[show kE B=0 from Ha.out])|(go_at_call 238;refine(X5 ⟨za,la,t,pa,zc,lc,cc,pc⟩ B _ c.out.at_ (by have:=c.out.nz;omega)).mono ?_;try rw[show ji B=0 from Ha.out])|(go_at_call 239;refine(Yq ⟨za,la,t,pa,zc,lc,cc,pc⟩ B _ c.out.at_ (by have:=c.out.nl;omega) c.out.lc).mono ?_;try rw[show jl B=0 from Ha.out])|(go_at_call 240;refine(Yw ⟨za,la,t,pa,zc,lc,cc,pc⟩ B _ c.out.at_ c.out.nz c.out.nl (by have:=c.out.nc;omega)).mono ?_;try rw[show iH B=0 from Ha.out])|(go_at_call 241;refine(Yx ⟨za,la,t,pa,zc,lc,cc,pc⟩ B _ c.out.at_ c.out.nl (by have:=c.out.np;omega) c.out.ps).mono ?_;try rw[show jo B=0 from Ha.out]));rintro e wn ⟨rfl,A⟩;have q:=lH A;clear A)
   first
   |go_ret;exact⟨by rw[r.out];exact congrArg (λx=>Ending.returned (iN qi x)) (if_neg D).symm,Hb.out.trans (q.out.mono Hb.out.size)⟩
   |go_roundw
    case rel=>exact⟨n,zP,by rw[hn];rfl,lH (by rw[r.out,hn];exact if_pos Ha.out),lH (Hb.out.trans (q.out.mono Hb.out.size)),lH (gV q.out (nR _) F.out)⟩
    case measure=>simp[intOf]
def Bv(V:BkV)(B:Bk)(z:Zn)(i:Nat)(far a e:Int)(w:wD)(H:aI w V B)(hn:B.Z.length<1000)(E:B.zoneIx far=some i)(r:B.Z[i]? =some z)(M:B.zoneOf far=z)(hd:1<=B.day/\B.day<=1000)(R: -1000<=B.U/\B.U<=1000)(hz:0<=z.day/\z.day<=9/\0<=z.night/\z.night<=9)(hf:0<=a/\a<=1000)(ht:e<=1000):
 cF tP 113 #[V.val B,iN qi far,iN qi a,iN qi e] w λen N=>en=rT (iN qi (B.price far a e))/\bX w.heap.size w N:=by
 by_cases G:a=e
 ·subst G
  have L:B.price far a a=0:=by unfold Bk.price;rw[if_pos rfl]
  have O:=lH L;clear L;go_enter func113,ntmps113;go_wp2;go_ret;exact⟨by rw[O.out];rfl,(bR _ _).alloc (nR _) _⟩
 have L:B.price far a e=max z.least (B.secs z a e):=by unfold Bk.price;rw[if_neg G,M]
 have O:=lH L;clear L M;have Hat:=lH H;clear H;have X:Hid (∀w,aI w V B->cF tP 130 #[V.val B,iN qi far] w λe N=>e=rT (iN qi (i:Int))/\bX w.heap.size w N):=lH λw h=>by have:=c130 V B far hn w h;rw[E]at this;exact this
 obtain⟨g,l,hza,y0,y1,y2,y3⟩:=Hat.out.Z i z r;obtain⟨za,la,D,pa,zc,lc,cc,pc⟩:=V;simp only at hza;subst hza;have ac:i<B.Z.length:=(lS.1 r).1;have T:=wBk w _ y0;simp only at T;go_enter func113,ntmps113;go_wp2;rename_i K hK;refine uw (z:=100) none 9 1 [13,14,15,16,17,18,19,20,9] [8] (λ_=>.cells #[iN qi 0,iN qi 0,iN qi 0,iN qi 0] 105) (λP=>[pN (some ⟨w.heap.size,0,none⟩),pN (some ⟨w.heap.size,3,none⟩),sL (some ⟨g,l,none⟩) B.Z.length zc,.agg (BkV.row ⟨some ⟨g,l,none⟩,la,D,pa,zc,lc,cc,pc⟩ B),iN qi far,iN qi (i:Int),pN (some ⟨g,l+i*4,none⟩),.agg #[iN qi z.far,iN qi z.day,iN qi z.night,iN qi z.least],pN (some ⟨P 8,0,none⟩)]) xD rfl xD (λ_=>rfl) yW λP A U=>?_;simp only[jk,Act.put,Ail,Ais,Ait]at U;subst U;have J:bX w.heap.size w (w.alloc (cL #[iN qi B.day,iN qi B.D,iN qi B.U,sL (some ⟨g,l,none⟩) B.Z.length zc,sL la B.L.length lc,sL D B.C.length cc,sL pa B.P.length pc] 112)).drew:=((bR _ _).alloc (nR _) _).drew;have f:∀u:wD,(w.alloc (cL #[iN qi B.day,iN qi B.D,iN qi B.U,sL (some ⟨g,l,none⟩) B.Z.length zc,sL la B.L.length lc,sL D B.C.length cc,sL pa B.P.length pc] 112)).drew.grownBy u none->(u.cell? ⟨w.heap.size,0,none⟩=some (iN qi B.day)/\u.cell? ⟨w.heap.size,1,none⟩=some (iN qi B.D)/\u.cell? ⟨w.heap.size,2,none⟩=some (iN qi B.U)/\u.cell? ⟨w.heap.size,3,none⟩=some (sL (some ⟨g,l,none⟩) B.Z.length zc)/\u.cell? ⟨w.heap.size,4,none⟩=some (sL la B.L.length lc)/\u.cell? ⟨w.heap.size,5,none⟩=some (sL D B.C.length cc)/\u.cell? ⟨w.heap.size,6,none⟩=some (sL pa B.P.length pc))/\
  (u.cell? ⟨g,l+i*4,none⟩=some (iN qi z.far)/\u.cell? ⟨g,l+i*4+1,none⟩=some (iN qi z.day)/\u.cell? ⟨g,l+i*4+2,none⟩=some (iN qi z.night)/\u.cell? ⟨g,l+i*4+3,none⟩=some (iN qi z.least)):=λu c=>by
  refine⟨⟨dM c ?_,dM c ?_,dM c ?_,dM c ?_,dM c ?_,dM c ?_,dM c ?_⟩,dM c ?_,dM c ?_,dM c ?_,dM c ?_⟩
  all_goals go_simp
 generalize w.alloc (cL #[iN qi B.day,iN qi B.D,iN qi B.U,sL (some ⟨g,l,none⟩) B.Z.length zc,sL la B.L.length lc,sL D B.C.length cc,sL pa B.P.length pc] 112)=W at*;have t:=lH J;have Z:=lH r;have Y:=lH E;clear E r J y0 y1 y2 y3;refine⟨dL (λu c=>?_)<|dL (λu c=>?_)<|dL (λu c=>?_)<|dL (λu c=>?_)<|dL (λu c=>?_)<|ql 130 #[.agg (BkV.row ⟨some ⟨g,l,none⟩,la,D,pa,zc,lc,cc,pc⟩ B),iN qi far] (λu c=>?_) (λu c=>?call)<|dL (λu c=>?_)<|dL (λu c=>?_)<|Ym (λa u=>?new) rM,λu c hB _=>?fin⟩
 case call=>exact(X.out u (Hat.out.map λb o v _ h=>dM c.1 (by rw[(Ba t.out).1 b o (wBk w _ h)];exact h))).mono λe u' ⟨e1,e2⟩=>⟨e1,grown_of e2 _,trivial⟩
 case new=>go_simp
 case fin=>
  obtain⟨aa,F⟩:=hB 8 yW zE;generalize P 8=d at*;obtain⟨c,_⟩:=c;have Q:bX w.heap.size w u:=t.out.trans ⟨c.os,c.tape,c.output,c.size,λk hk=>c.block k (by have:=t.out.size;omega) yW⟩;obtain⟨⟨c0,c1,c2,c3,c4,c5,c6⟩,d0,d1,d2,d3⟩:=f u c;obtain⟨m0,m1,m2,m3⟩:u.cell? ⟨d,0,none⟩=some (iN qi 0)/\u.cell? ⟨d,1,none⟩=some (iN qi 0)/\u.cell? ⟨d,2,none⟩=some (iN qi 0)/\u.cell? ⟨d,3,none⟩=some (iN qi 0):=by simp[Aeq,F]
  have q:∀k,u.frozen? ⟨d,k,none⟩=false:=λk=>by simp[Aem,F]
  have f0:=q 0;have f1:=q 1;have f2:=q 2;have f3:=q 3;clear q;have ab:w.heap.size<W.heap.size:=by have:=wBk W.drew _ ((f _ (eF _ _)).1.1);exact this
  refine Yn 9 ((((u.setCell ⟨d,0,none⟩ (iN qi z.far)).setCell ⟨d,1,none⟩ (iN qi z.day)).setCell ⟨d,2,none⟩ (iN qi z.night)).setCell ⟨d,3,none⟩ (iN qi z.least)) ?hr (qj (hr:=by kernel_rfl) ?_)
  case hr=>go_simp
  have I:bX w.heap.size w ((((u.setCell ⟨d,0,none⟩ (iN qi z.far)).setCell ⟨d,1,none⟩ (iN qi z.day)).setCell ⟨d,2,none⟩ (iN qi z.night)).setCell ⟨d,3,none⟩ (iN qi z.least)):=(((Q.setCell (p:=⟨d,0,none⟩) xL _).setCell (p:=⟨d,1,none⟩) xL _).setCell (p:=⟨d,2,none⟩) xL _).setCell (p:=⟨d,3,none⟩) xL _;simp only[Exit.then];refine hK _ _ (pr4 ⟨some ⟨g,l,none⟩,la,D,pa,zc,lc,cc,pc⟩ B z a e w.heap.size d _ hd R hz hf ht (λj x hx=>?_) ?_ ?_ ?_ ?_ _ _ _ _ _ _ _ _ _ _ _ _ _ _ _ _ _ _ _ _ _ _ _ _ _ _ (λN S=>?_))
  ·match j,hx with
   |0,hx=>cases hx;go_simp
   |1,hx=>cases hx;go_simp
   |2,hx=>cases hx;go_simp
   |3,hx=>cases hx;go_simp
   |4,hx=>cases hx;go_simp
   |5,hx=>cases hx;go_simp
   |6,hx=>cases hx;go_simp
  ·go_simp
  ·go_simp
  ·go_simp
  ·go_simp
  exact⟨by rw[O.out],I.trans (S.mono I.size)⟩
 all_goals
  obtain⟨⟨c0,c1,c2,c3,c4,c5,c6⟩,d0,d1,d2,d3⟩:=f u c.1;go_simp
end Go.Proofs.Y
namespace Go.Proofs.Y
open Go.RowKit Go.Tp Go.Meter Go.Maps
variable {w:wD} {b:Nat} {C:Int->Int->Sp->Int} {s:Sp} {x y:Int}
def MW:(178 :TypeId)<tP.types.size:=of_decide_eq_true xD
def vW:Keyed tP 178:=Keyed.of_law (deep_law_laid xD (m:=3) zP MW xD (by rw[underlying178]))
def Yy:tP.keyType 178=true:=xD
def MX:tP.cellsOf 178=5:=xD
def Yz:tP.cellsOf 129=3:=xD
def co3:tP.cellsOf 3=1:=xD
def co4:tP.cellsOf 4=1:=xD
def jT(a:Int):Prop:= -9223372036854775808<=a/\a<=9223372036854775807
theorem wf_i64{a:Int}(h:jT a):(Lit.int qi a).wf=true:=by obtain⟨c,h2⟩:=h;simp[Lit.wf,IntKind.min,IntKind.max,IntKind.bits,IntKind.signed];omega
abbrev kJ(a b:Int)(s:Sp):vL:=.agg #[iN qi a,iN qi b,.bool s.made,iN qi s.ans,iN qi s.clr]
def YA{a b:Int}(g:jT a)(i:jT b)(hc:jT s.ans)(l:jT s.clr):keyOf tP 178 (kJ a b s)=some (.string (keyBytes [.int qi a,.int qi b,.bool s.made,.int qi s.ans,.int qi s.clr])):=by have c:=wf_i64 g;have d:=wf_i64 i;have e:=wf_i64 hc;have f:=wf_i64 l;obtain⟨m,p⟩:∃m,tP.types.size=m+2:=⟨tP.types.size-2,by have:178<tP.types.size:=MW;omega⟩;unfold keyOf;rw[underlying178];simp only;rw[if_pos (by simp[Yy,Value.formed,underlying178,MX]),p];unfold Program.keyLits;rw[underlying178];simp[MX,Yz,co3,Value.cells,Program.keyLits,underlying129,underlying3,underlying4,co4,c,d,e,f];rw[if_pos zE];rfl
def zero3(w:wD):(zeroValue 3).run tP w=.ok (iN qi 0) w:=xD
noncomputable abbrev Bz:vL->Option (DataW Unit×List MemPlace):=plainElem tP 3
structure nD (x y:Int) (s:Sp):Prop where
 x:0<=x/\x<3
 y:0<=y/\y<=200
 a:0<=s.ans/\s.ans<=200
 c:0<=s.clr/\s.clr<=200
def klit(x y:Int)(s:Sp):Lit:=.string (keyBytes [.int qi x,.int qi y,.bool s.made,.int qi s.ans,.int qi s.clr])
def nD.key(h:nD x y s):keyOf tP 178 (kJ x y s)=some (klit x y s):=by obtain⟨c,h2,d,h4⟩:=h;exact YA (by unfold jT;omega) (by unfold jT;omega) (by unfold jT;omega) (by unfold jT;omega)
def yt:List Lit:=(Aes 3).flatMap λx=>(Aes 201).flatMap λy=>[true,false].flatMap λm=>(Aes 201).flatMap λa=>(Aes 201).map λc=>klit (x:Nat) (y:Nat) ⟨m,(a:Nat),(c:Nat)⟩
def YB:yt.length=48723606:=by unfold yt;simp only[List.length_flatMap,List.length_map,List.length_range,List.map_const',List.sum_replicate_nat,Ai6,List.map_nil,List.sum_cons,List.sum_nil,Nat.reduceMul,Nat.reduceAdd]
def nD.mem(h:nD x y s):klit x y s∈yt:=by obtain⟨e,h2,d,h4⟩:=h;obtain⟨m,a,c⟩:=s;simp only at d h4;obtain⟨x,rfl⟩:∃n:Nat,x=(n:Int):=⟨x.toNat,zP⟩;obtain⟨y,rfl⟩:∃n:Nat,y=(n:Int):=⟨y.toNat,zP⟩;obtain⟨a,rfl⟩:∃n:Nat,a=(n:Int):=⟨a.toNat,zP⟩;obtain⟨c,rfl⟩:∃n:Nat,c=(n:Int):=⟨c.toNat,zP⟩;unfold yt;exact Ai1.2 ⟨x,Aid.2 zP,Ai1.2 ⟨y,Aid.2 zP,Ai1.2 ⟨m,by cases m<;>simp,Ai1.2 ⟨a,Aid.2 zP,List.mem_map.2 ⟨c,Aid.2 zP,rfl⟩⟩⟩⟩⟩
def YC{α:Type}{l m:List α}(hn:l.Nodup)(c:∀x∈l,x∈m):l.length<=m.length:=by
 classical
 induction l generalizing m with
 |nil=>exact Aih _
 |cons x l ih=>rw[List.nodup_cons]at hn;have f:=ih (m:=m.erase x) hn.2 λi d=>(List.mem_erase_of_ne (λe:i=x=>hn.1 (e▸d))).2 (c i (Rf _ d));have h2:=List.length_erase_of_mem (c x Aah);have g:=List.length_pos_of_mem (c x Aah);simp only[Ah9];omega
def YD{n:Nat}{D:DataW Unit}(h:w.ownsMap tP 178 Bz b n D)(L:List Lit)(q:∀f,(∃v,keyOf tP 178 v=some f)->Maps.has D f=true->f∈L):w.ownsMap tP 178 Bz b L.length D:=by
 obtain⟨i,d,r,F,E,rfl⟩:=h;refine⟨i,d,r,F,?_,rfl⟩;have t:=fit_apart vW F;have g:((i.toList.map (Go.WideElems.rg tP 178 Bz)).map Prod.fst).Nodup:=by rw[List.Nodup,List.pairwise_map];exact t
 have:=YC (m:=L) g λf c=>by
  obtain⟨p,e,rfl⟩:=List.mem_map.1 c;have l:=fit_keys F p e;refine q _ l ?_;rw[has_eq,List.any_eq_true];refine⟨p,(Go.WideShapes.sorted_perm _).mem_iff.2 e,?_⟩;obtain⟨v,A⟩:=l;have c:=vW.key A;unfold Go.WideAt.IsKeyLit at c
  split at c<;>first|(cases c;done)|simp_all [Lit.sameKey]
 simpa using this
def KnP(w:wD)(b:Nat)(C:Int->Int->Sp->Int):Prop:=
 ∃D:DataW Unit,w.ownsMap tP 178 Bz b 48723606 D/\(∀c,(∃v,keyOf tP 178 v=some c)->Maps.has D c=true->∃x y s,nD x y s/\c=klit x y s)/\∀(x y:Int) (s:Sp) (c:Lit),keyOf tP 178 (kJ x y s)=some c->Maps.has D c=true->D.atKey c (.lit (.int qi 0))=.lit (.int qi (C x y s))
def KnP.of_map(h:w.heap[b]? =some (.map #[] 0))(C:Int->Int->Sp->Int):KnP w b C:=
 ⟨.map [],⟨#[],0,h,⟨yW,MapKept.stamped_empty 0,yW⟩,Aih _,rfl⟩,λ_ _ h=>by simp[Maps.has]at h,λ_ _ _ _ _ h=>by simp[Maps.has]at h⟩
theorem KnP.kept{w':wD}(h:KnP w b C){row:Option Nat}(e:w.grownBy w' row)(c:some b≠row):KnP w' b C:=by obtain⟨D,d,h2⟩:=h;exact⟨D,d.kept e c,h2⟩
theorem KnP.lt(h:KnP w b C):b<w.heap.size:=by obtain⟨D,c,_⟩:=h;exact c.lt
def KnP.look(h:KnP w b C)(g:nD x y s):
 ∃(c:Int) (t:Bool),(Instr.lookup 113 (.map (some b)) (kJ x y s) true).run tP w=.ok (.tuple #[iN qi c,.bool t]) w/\(t=true->c=C x y s):=by
 obtain⟨D,i,_,h2⟩:=h;obtain⟨v,r,e,p⟩:=i.look_ok vW underlying113 (zero3 w) (plainElem_int underlying3 zE) g.key;obtain⟨c,rfl,f,q⟩:=plainElem_int_inv underlying3 p;refine⟨c,_,e,λl=>?_⟩;have:=h2 x y s _ g.key l;have d:=congrArg Prod.fst f;simp only at d;rw[this]at d
 cases d;rfl
theorem KnP.update(h:KnP w b C)(i:nD x y s)(L:jT (C x y s)):
 ∃F,(Instr.mapUpdate 113 (.map (some b)) (kJ x y s) (iN qi (C x y s))).run tP w=.ok () F/\KnP F b C/\w.grownBy F (some b):=by
 obtain⟨D,G,J,h2⟩:=h;obtain⟨F,A,t,K⟩:=G.update vW underlying113 zE i.key (plainElem_int underlying3 (wf_i64 L));have f:∀d,(∃v,keyOf tP 178 v=some d)->Maps.has (D.put (klit x y s) (.lit (.int qi (C x y s)))) d=true->∃x y s,nD x y s/\d=klit x y s:=λd c g=>by
  by_cases e:d=klit x y s
  ·exact⟨x,y,s,i,e⟩
  rw[has_put_other e]at g;exact J d c g
 have E:=YD t yt λd c g=>by obtain⟨R,S,Q,h4,rfl⟩:=f d c g;exact h4.mem
 rw[YB]at E;refine⟨F,A,⟨_,E,f,λp q r d c g=>?_⟩,K⟩;by_cases e:kJ x y s=kJ p q r
 ·have H:x=p/\y=q/\s=r:=by
   obtain⟨O,a1,c1⟩:=s;obtain⟨P,M,N⟩:=r;simpa using e
  obtain⟨rfl,rfl,rfl⟩:=H;rw[i.key]at c
  cases c
  rw[atKey_put_same G.isMap (vW.key i.key)]
 have l:d≠klit x y s:=λI=>e (by subst I;exact vW.inj i.key c)
 rw[has_put_other l]at g;rw[atKey_put_other l,h2 p q r d c g]
def MZ{ops:Array Ajd}{d:List Ajd}{o:Ajd}{a:Act}{Q:Exit->Act->wD->Prop}(A:o.guard=none)(m x:Operand)(i:o.op=Op.lookup 113 m x true)(b:Nat)(E:a.eval m=.map (some b))(p q:Int)(s:Sp)(hx:a.eval x=kJ p q s)(e:KnP w b C)(D:nD p q s)(r:Ajc tP ops Q d (a.put o.dst (.tuple #[iN qi (C p q s),.bool true])) w)(l:∀c:Int,Ajc tP ops Q d (a.put o.dst (.tuple #[iN qi c,.bool false])) w):Ajc tP ops Q (o::d) a w:=by
 refine wpList_plain A λF g=>?_;obtain⟨c,t,f,hc⟩:=e.look D;unfold Oper.wp;simp[execOp,i,E,hx,f,Result.andThen];refine g _ _ ?_
 cases t with
 |true=>rw[hc rfl];exact r
 |false=>exact l c
def Na{ops:Array Ajd}{c:List Ajd}{o:Ajd}{a:Act}{Q:Exit->Act->wD->Prop}(A:o.guard=none)(m x v:Operand)(i:o.op=Op.mapUpdate 113 m x v)(b:Nat)(E:a.eval m=.map (some b))(p q:Int)(s:Sp)(hx:a.eval x=kJ p q s)(F:a.eval v=iN qi (C p q s))(d:KnP w b C)(D:nD p q s)(r:jT (C p q s))(t:∀f,KnP f b C->w.grownBy f (some b)->Ajc tP ops Q c (a.put o.dst ud) f):Ajc tP ops Q (o::c) a w:=by refine wpList_plain A λG g=>?_;obtain⟨f,e,l,h2⟩:=d.update D r;unfold Oper.wp;simp[execOp,i,E,hx,F,e,Result.andThen];exact g _ _ (t f l h2)
end Go.Proofs.Y
namespace Go.Meter
variable {B:Bk} {far:Int}
structure Ln.Fine (x:Ln):Prop where
 digits:1<=x.digits/\x.digits<=4
 lo:0<=x.s0
 ord:x.s0<=x.s1
 hi:x.s1<numbers x.digits
 wide:x.s1-x.s0<3
structure Cl.Fine (B:Bk) (c:Cl):Prop where
 line:0<=c.line/\c.line<B.L.length
 far:0<=c.far/\c.far<=999
 zone:∃i z,B.zoneIx c.far=some i/\B.Z[i]? =some z
 ans:0<=c.a0/\c.a0<=c.a1/\c.a1<=200/\c.a1-c.a0<3
 clr:0<=c.c0/\c.c0<=c.c1/\c.c1<=200/\c.c1-c.c0<3
 made:c.made=0\/c.made=1
 ord:c.a0<=c.c1
structure Pt.Fine (B:Bk) (p:Pt):Prop where
 line:0<=p.line/\p.line<B.L.length
 time:0<=p.at_/\p.at_<=200
 form:(p.shows.size:Int)=(B.lineAt p.line).digits
 digit:∀i,i<p.shows.size->p.shows.get! i=63\/(48<=(p.shows.get! i).toNat/\(p.shows.get! i).toNat<=57)
structure Bk.Fine (B:Bk):Prop where
 day:1<=B.day/\B.day<=60
 D:0<=B.D/\B.D<=B.day
 U:B.D<=B.U/\B.U<=B.day
 nz:1<=B.Z.length/\B.Z.length<=3
 zone:∀(i:Nat) z,B.Z[i]? =some z->(0<=z.far/\z.far<=999)/\(0<=z.day/\z.day<=9)/\(0<=z.night/\z.night<=9)/\(0<=z.least/\z.least<=99)
 nl:1<=B.L.length/\B.L.length<=3
 line:∀(i:Nat) x,B.L[i]? =some x->x.Fine
 nc:B.C.length<=3
 call:∀(i:Nat) c,B.C[i]? =some c->c.Fine B
 np:B.P.length<=5
 photo:∀(i:Nat) p,B.P[i]? =some p->p.Fine B
def Sp.Ok(B:Bk)(i:Nat)(s:Sp):Prop:=s.made=true->i<B.C.length/\(0<=s.ans/\s.ans<=200)/\(0<=s.clr/\s.clr<=200)
def Past.Ok(B:Bk)(p:Past):Prop:=(0<=p.start/\p.start<=9999)/\∀i,i<3->(p.c i).Ok B i/\((p.c i).made=false->(p.c i).ans=0/\(p.c i).clr=0)
def vX{i:Nat}{z:Zn}(h:B.zoneIx far=some i)(g:B.Z[i]? =some z):B.zoneOf far=z:=by
 unfold Bk.zoneIx at h;unfold Bk.zoneOf;rw[Aik]at h;obtain⟨c,f,d⟩:=h;have e:B.Z.find? (λz=>decide (far<=z.far))=some B.Z[i]:=by
  rw[List.find?_eq_some_iff_getElem]
  grind
 grind
theorem BA(a b:Int):(bg a b).length=(b+1-a).toNat:=by simp[bg]
theorem Nb{f:Int->Int}{m:Int}:∀(l:List Int),(∀x∈l,0<=f x/\f x<=m)->0<=(l.map f).sum/\(l.map f).sum<=m*(l.length:Int)
 |[],_=>by simp
 |x::l,h=>by
  have e:=Nb l λy c=>h y (Rf _ c);have d:=h x (Aah ..);simp only[Ai6,List.sum_cons,Ah9]
  grind
def Nc{z:Zn}(e:(0<=z.day/\z.day<=9)/\0<=z.night/\z.night<=9){f t:Int}(c:0<=f)(d:t<=1000):0<=B.secs z f t/\B.secs z f t<=9000:=by
 unfold Bk.secs;have h:=Nb (f:=B.sec z) (m:=9) (bg f (t-1)) λx _=>by unfold Bk.sec;split<;>omega
 grind [BA]
def YE(f:B.Fine)(l:∃i z,B.zoneIx far=some i/\B.Z[i]? =some z){a e:Int}(g:0<=a)(he:e<=1000):0<=B.price far a e/\B.price far a e<=9000:=by
 obtain⟨i,z,c,h2⟩:=l;obtain⟨_,d,h4,h5⟩:=f.zone i z h2;unfold Bk.price;rw[vX c h2];have:=Nc (B:=B) ⟨d,h4⟩ g he
 grind
def Nh(f:B.Fine)(g:∃i z,B.zoneIx far=some i/\B.Z[i]? =some z){s:Sp}{t:Int}(d:s.made=true->0<=s.ans/\s.clr<=1000)(q:t<=1000):0<=B.counted far s t/\B.counted far s t<=9000:=by
 unfold Bk.counted;by_cases h:s.made=false\/t<=s.ans
 ·grind
 rw[if_neg h];have c:s.made=true:=by cases e:s.made<;>simp_all
 split
 ·exact YE f g (d c).1 (d c).2
 obtain⟨i,z,l,h2⟩:=g;obtain⟨_,p,h4,h5⟩:=f.zone i z h2;rw[vX l h2];exact Nc ⟨p,h4⟩ (d c).1 q
end Go.Meter
namespace Go.Proofs.Y
open Go.RowKit Go.Tp Go.Meter Go.Maps
variable {w:wD} {b k m:Nat} {B:Bk} {v:Int} {a:Array vL}
abbrev cnt(B:Bk):Int->Int->Sp->Int:=λx y s=>B.counted (B.callAt x.toNat).far s y
abbrev ctr(V:BkV)(B:Bk)(m:Nat):vL:=.agg ((V.row B).push (.map (some m)))
def YF{w1 c:wD}(h1:bX w.heap.size w w1)(h2:w1.grownBy c (some m)):w.grownBy c (some m):=cZ (grown_of h1 _) h2
def YG(V:BkV)(B:Bk)(m i:Nat)(t:Int)(s:Sp)(w:wD)(p:KnP w m (cnt B))(l:s.made=false\/t<=s.ans):
 cF tP 137 #[ctr V B m,kJ (i:Int) t s] w λe q=>e=rT (iN qi 0)/\KnP q m (cnt B)/\w.grownBy q (some m):=by
 obtain⟨za,la,r,pa,zc,lc,cc,pc⟩:=V;have g:bX w.heap.size w ((w.alloc (cL #[iN qi B.day,iN qi B.D,iN qi B.U,sL za B.Z.length zc,sL la B.L.length lc,sL r B.C.length cc,sL pa B.P.length pc,.map (some m)] 115)).alloc (cL #[iN qi (i:Int),iN qi t,.bool s.made,iN qi s.ans,iN qi s.clr] 178)):=((bR _ _).alloc (nR _) _).alloc yW _;have d:=lH (Ajb (p.kept (grown_of g none) yW) (grown_of g (some m)));clear p g;obtain⟨c,f,A⟩:=s
 cases c with
 |false=>clear l;go_enter func137,ntmps137;go_wp2;go_ret;exact⟨rfl,d.out.1,d.out.2⟩
 |true=>
  have h2:t<=f:=by simpa using l
  clear l;go_enter func137,ntmps137;go_wp2;go_ret;exact⟨rfl,d.out.1,d.out.2⟩
def YH(V:BkV)(B:Bk)(hF:B.Fine)(m i:Nat)(t d f:Int)(w:wD)(R:aI w V B)(hk:KnP w m (cnt B))(hi:i<B.C.length)(ha:0<=d/\d<=200)(hc:0<=f/\f<=200)(ht:d<t/\t<=200):
 cF tP 137 #[ctr V B m,kJ (i:Int) t ⟨true,d,f⟩] w λe w'=>e=rT (iN qi (B.counted (B.callAt i).far ⟨true,d,f⟩ t))/\KnP w' m (cnt B)/\w.grownBy w' (some m):=by
 have hC:cnt B (i:Int) t ⟨true,d,f⟩=B.counted (B.callAt i).far ⟨true,d,f⟩ t:=by simp[cnt]
 generalize hR:B.counted (B.callAt i).far ⟨true,d,f⟩ t=r at*;have HC:=lH hC;have HR:=lH hR;have HF:=lH hF;have S:B.C[i]? =some B.C[i]:=lG hi;have Q:=lH S;obtain⟨l,p,ad,y0,y1,y2,y3,y4,y5,y6⟩:=R.C i _ S;have Hat:=lH R;have Hk:=lH hk;obtain⟨za,la,ca,pa,zc,lc,cc,pc⟩:=V;simp only at ad;subst ad;clear R hk hC hR hF S;have hb:bX w.heap.size w ((w.alloc (cL #[iN qi B.day,iN qi B.D,iN qi B.U,sL za B.Z.length zc,sL la B.L.length lc,sL (some ⟨l,p,none⟩) B.C.length cc,sL pa B.P.length pc,.map (some m)] 115)).alloc (cL #[iN qi (i:Int),iN qi t,.bool true,iN qi d,iN qi f] 178)):=((bR _ _).alloc (nR _) _).alloc yW _;have P:=lH (Ajb (Hk.out.kept (grown_of hb none) yW) (grown_of hb (some m)));have Hb:=lH hb;clear hb;have hlt:d<t:=ht.1;have al:=wBk w _ y0;simp only at al;have ae:∀x:Int,0<=x->x<=9000->jT x:=λx F h2=>by unfold jT;omega
 have I:Hid (nD (i:Int) t ⟨true,d,f⟩):=lH ⟨by have:=HF.out.nc;omega,zP,ha,hc⟩;have ac:=lH (HF.out.call i _ Q.out);have Hr:Hid (jT r):=lH (by have:=Nh HF.out (far:=(B.callAt i).far) (by unfold Bk.callAt;rw[Q.out];exact ac.out.zone) (s:=⟨true,d,f⟩) (t:=t) (λ_=>⟨ha.1,by show f<=1000;omega⟩) zP;rw[HR.out]at this;exact ae r this.1 this.2)
 clear ae;obtain⟨H,z,Y,J⟩:=ac.out.zone;have ah:=vX Y J;have ai:=HF.out.zone H z J;have N:B.callAt i=B.C[i]:=by unfold Bk.callAt;rw[Q.out];rfl
 have Hz:=lH (Ajb Y (Ajb J (Ajb ah ai)));have L:=lH N;clear Y J ah ai N;generalize O:B.C[i].far=far at*;have M:=lH O;clear O;have HE:Hid (∀u Z,bX w.heap.size w u->u.grownBy Z (some m)->KnP Z m (cnt B)->KnP Z m (cnt B)/\w.grownBy Z (some m)):=lH λu Z F h2 h3=>⟨h3,YF F h2⟩;by_cases hq:f<=t
 ·have af:r=B.price far d f:=by
   rw[<-HR.out];unfold Bk.counted;rw[if_neg xL,if_pos hq,L.out,M.out]
  have aa:Hid (∀u:wD,bX w.heap.size w u->cF tP 113 #[(BkV.val ⟨za,la,some ⟨l,p,none⟩,pa,zc,lc,cc,pc⟩ B),iN qi far,iN qi d,iN qi f] u λe G=>e=rT (iN qi r)/\bX w.heap.size w G/\KnP G m (cnt B)/\bX u.heap.size u G):=lH λu g=>by rw[af];refine(Bv ⟨za,la,some ⟨l,p,none⟩,pa,zc,lc,cc,pc⟩ B z H far d f u (Hat.out.below g (nR _)) (by have:=HF.out.nz;omega) Hz.out.1 Hz.out.2.1 Hz.out.2.2.1 (by have:=HF.out.day;omega) (by have:=HF.out.U;have:=HF.out.D;have:=HF.out.day;omega) (by have:=Hz.out.2.2.2;omega) zP zP).mono ?_;rintro e G ⟨F,h2⟩;have h3:=g.trans (h2.mono g.size);exact⟨F,h3,Hk.out.kept (grown_of h3 none) yW,h2⟩
  clear af;go_enter func137,ntmps137
  go_wp2_with (first
   |(refine MZ rfl _ _ rfl m rfl (i:Int) t ⟨true,d,f⟩ rfl P.out.1 I.out ?_ ?_))
  ·go_wp2
   go_ret;exact⟨congrArg (λx=>Ending.returned (iN qi x)) HC.out,P.out.1,P.out.2⟩
  intro c
  go_wp2_with (first
   |(go_at_call 113;refine(aa.out _ Hb.out).mono ?_;rintro e u ⟨rfl,g,X,am⟩;obtain⟨ao,ap⟩:=Ba am)
   |(refine Na rfl _ _ _ rfl m rfl (i:Int) t ⟨true,d,f⟩ rfl (congrArg (Value.int qi) HC.out.symm) X I.out (by rw[HC.out];exact Hr.out) ?_;intro Z U T))
  go_wp2;go_ret;exact⟨rfl,HE.out _ _ g T U⟩
 have ag:r=B.secs z d t:=by rw[<-HR.out];unfold Bk.counted;rw[if_neg xL,if_neg hq,L.out,M.out,Hz.out.2.2.1]
 have ar:t<f:=zP
 have H130:Hid (∀u:wD,bX w.heap.size w u->cF tP 130 #[(BkV.val ⟨za,la,some ⟨l,p,none⟩,pa,zc,lc,cc,pc⟩ B),iN qi far] u λe G=>e=rT (iN qi (H:Int))/\u.grownBy G none):=lH λu g=>by have:=c130 ⟨za,la,some ⟨l,p,none⟩,pa,zc,lc,cc,pc⟩ B far (by have:=HF.out.nz;omega) u (Hat.out.below g (nR _));rw[Hz.out.1]at this;exact this.mono λe G ⟨F,h2⟩=>⟨F,grown_of h2 _⟩
 have ab:Hid (∀u:wD,cF tP 152 #[(BkV.val ⟨za,la,some ⟨l,p,none⟩,pa,zc,lc,cc,pc⟩ B),.agg #[iN qi z.far,iN qi z.day,iN qi z.night,iN qi z.least],iN qi d,iN qi t] u λe G=>e=rT (iN qi r)/\u.grownBy G none):=lH λu=>by rw[ag];exact(c152 ⟨za,la,some ⟨l,p,none⟩,pa,zc,lc,cc,pc⟩ B z d t (by have:=HF.out.day;omega) (by have:=HF.out.U;have:=HF.out.D;have:=HF.out.day;omega) (by have:=Hz.out.2.2.2;omega) zP zP u).mono λe G ⟨F,h2⟩=>⟨F,grown_of h2 _⟩
 clear ag;obtain⟨D,E,hza,q0,q1,q2,q3⟩:=Hat.out.Z H z Hz.out.2.1;simp only at hza;subst hza;have aq:H<B.Z.length:=(lS.1 Hz.out.2.1).1;have an:=wBk w _ q0;simp only at an;go_enter func137,ntmps137
 go_wp2_with (first
  |(refine MZ rfl _ _ rfl m rfl (i:Int) t ⟨true,d,f⟩ rfl P.out.1 I.out ?_ ?_))
 ·go_wp2
  go_ret;exact⟨congrArg (λx=>Ending.returned (iN qi x)) HC.out,P.out.1,P.out.2⟩
 intro c
 go_wp2;rename_i K hK h0;refine uw (z:=100) none 19 0 [54,55,56,57,58,59,60,61,62,63,64,65,66,67,68,69,70,71,5] [] (λ_=>default) (λ_=>[pN (some ⟨w.heap.size,0,none⟩),(BkV.val ⟨some ⟨D,E,none⟩,la,some ⟨l,p,none⟩,pa,zc,lc,cc,pc⟩ B),pN (some ⟨w.heap.size,0,none⟩),pN (some ⟨w.heap.size,0,none⟩),pN (some ⟨w.heap.size,3,none⟩),sL (some ⟨D,E,none⟩) B.Z.length zc,pN (some ⟨w.heap.size,0,none⟩),(BkV.val ⟨some ⟨D,E,none⟩,la,some ⟨l,p,none⟩,pa,zc,lc,cc,pc⟩ B),iN qi far,iN qi (H:Int),pN (some ⟨D,E+H*4,none⟩),.agg #[iN qi z.far,iN qi z.day,iN qi z.night,iN qi z.least],pN (some ⟨w.heap.size+1,2,none⟩),pN (some ⟨w.heap.size+1,3,none⟩),iN qi d,pN (some ⟨w.heap.size+1,1,none⟩),iN qi t,iN qi r,iN qi r]) xD rfl xD (λ_=>rfl) yW λbs A hA=>?_;simp only[jk,Act.put,Ail,Ais,Ait]at hA;subst hA;have q:∀u:wD,((w.alloc (cL #[iN qi B.day,iN qi B.D,iN qi B.U,sL (some ⟨D,E,none⟩) B.Z.length zc,sL la B.L.length lc,sL (some ⟨l,p,none⟩) B.C.length cc,sL pa B.P.length pc,.map (some m)] 115)).alloc (cL #[iN qi (i:Int),iN qi t,.bool true,iN qi d,iN qi f] 178)).drew.grownBy u none->(u.cell? ⟨w.heap.size,0,none⟩=some (iN qi B.day)/\u.cell? ⟨w.heap.size,1,none⟩=some (iN qi B.D)/\u.cell? ⟨w.heap.size,2,none⟩=some (iN qi B.U)/\u.cell? ⟨w.heap.size,3,none⟩=some (sL (some ⟨D,E,none⟩) B.Z.length zc)/\u.cell? ⟨w.heap.size,4,none⟩=some (sL la B.L.length lc)/\u.cell? ⟨w.heap.size,5,none⟩=some (sL (some ⟨l,p,none⟩) B.C.length cc)/\u.cell? ⟨w.heap.size,6,none⟩=some (sL pa B.P.length pc)/\u.cell? ⟨w.heap.size,7,none⟩=some (.map (some m)))/\
  (u.cell? ⟨w.heap.size+1,0,none⟩=some (iN qi (i:Int))/\u.cell? ⟨w.heap.size+1,1,none⟩=some (iN qi t)/\u.cell? ⟨w.heap.size+1,2,none⟩=some (.bool true)/\u.cell? ⟨w.heap.size+1,3,none⟩=some (iN qi d)/\u.cell? ⟨w.heap.size+1,4,none⟩=some (iN qi f))/\
  (u.cell? ⟨D,E+H*4,none⟩=some (iN qi z.far)/\u.cell? ⟨D,E+H*4+1,none⟩=some (iN qi z.day)/\u.cell? ⟨D,E+H*4+2,none⟩=some (iN qi z.night)/\u.cell? ⟨D,E+H*4+3,none⟩=some (iN qi z.least)):=λu g=>by
  refine⟨⟨dM g ?_,dM g ?_,dM g ?_,dM g ?_,dM g ?_,dM g ?_,dM g ?_,dM g ?_⟩,⟨dM g ?_,dM g ?_,dM g ?_,dM g ?_,dM g ?_⟩,dM g ?_,dM g ?_,dM g ?_,dM g ?_⟩
  all_goals go_simp
 have hbw:∀u:wD,((w.alloc (cL #[iN qi B.day,iN qi B.D,iN qi B.U,sL (some ⟨D,E,none⟩) B.Z.length zc,sL la B.L.length lc,sL (some ⟨l,p,none⟩) B.C.length cc,sL pa B.P.length pc,.map (some m)] 115)).alloc (cL #[iN qi (i:Int),iN qi t,.bool true,iN qi d,iN qi f] 178)).drew.grownBy u none->bX w.heap.size w u:=λu g=>Hb.out.trans (⟨g.os,g.tape,g.output,g.size,λk hk=>g.block k xL yW⟩);clear q0 q1 q2 q3 y0 y1 y2 y3 y4 y5 y6;have aj:=P.out.1;generalize ((w.alloc (cL #[iN qi B.day,iN qi B.D,iN qi B.U,sL (some ⟨D,E,none⟩) B.Z.length zc,sL la B.L.length lc,sL (some ⟨l,p,none⟩) B.C.length cc,sL pa B.P.length pc,.map (some m)] 115)).alloc (cL #[iN qi (i:Int),iN qi t,.bool true,iN qi d,iN qi f] 178))=W at*;refine⟨?_,λu ⟨g,_⟩ hB _=>?_⟩
 ·iterate 9 refine dL (λu g=>by obtain⟨⟨c0,c1,c2,c3,c4,c5,c6,c7⟩,⟨k0,k1,k2,k3,k4⟩,d0,d1,d2,d3⟩:=q u g.1;go_simp) ?_
  refine ql 130 #[(BkV.val ⟨some ⟨D,E,none⟩,la,some ⟨l,p,none⟩,pa,zc,lc,cc,pc⟩ B),iN qi far] (λu g=>by go_simp) (λu g=>(H130.out u (hbw u g.1)).mono λe G ⟨F,h2⟩=>⟨F,h2,trivial⟩) ?_
  iterate 7 refine dL (λu g=>by obtain⟨⟨c0,c1,c2,c3,c4,c5,c6,c7⟩,⟨k0,k1,k2,k3,k4⟩,d0,d1,d2,d3⟩:=q u g.1;go_simp) ?_
  refine ql 152 #[(BkV.val ⟨some ⟨D,E,none⟩,la,some ⟨l,p,none⟩,pa,zc,lc,cc,pc⟩ B),.agg #[iN qi z.far,iN qi z.day,iN qi z.night,iN qi z.least],iN qi d,iN qi t] (λu g=>by go_simp) (λu g=>(ab.out u).mono λe G ⟨F,h2⟩=>⟨F,h2,trivial⟩) ?_;exact dL (λu g=>by go_simp) rM
 have X:=(aj.kept (w':=W.drew) (row:=none) ⟨rfl,rfl,rfl,nR _,λ_ _ _=>rfl⟩ yW).kept g yW
 obtain⟨⟨c0,c1,c2,c3,c4,c5,c6,c7⟩,⟨k0,k1,k2,k3,k4⟩,d0,d1,d2,d3⟩:=q u g;have ak:=hbw u g;refine qj (hr:=by kernel_rfl) ?_;simp only[Exit.then];refine hK _ _ ?_
 go_wp2_with (first
  |(refine Na rfl _ _ _ rfl m rfl (i:Int) t ⟨true,d,f⟩ rfl (congrArg (Value.int qi) HC.out.symm) X I.out (by rw[HC.out];exact Hr.out) ?_;intro Z U T))
 go_wp2;go_ret;exact⟨rfl,HE.out _ _ ak T U⟩
def YI(V:BkV)(B:Bk)(A:B.Fine)(m i:Nat)(t:Int)(s:Sp)(w:wD)(g:aI w V B)(l:KnP w m (cnt B))(E:s.Ok B i)(F:t<=200):
 cF tP 137 #[ctr V B m,kJ (i:Int) t s] w λe p=>e=rT (iN qi (B.counted (B.callAt i).far s t))/\KnP p m (cnt B)/\w.grownBy p (some m):=by
 by_cases h:s.made=false\/t<=s.ans
 ·have e:B.counted (B.callAt i).far s t=0:=by unfold Bk.counted;rw[if_pos h]
  rw[e];exact YG V B m i t s w l h
 obtain⟨c,d,f⟩:=s;have D:c=true:=by cases c<;>simp_all
 subst D;obtain⟨q,h2,r⟩:=E rfl;exact YH V B A m i t d f w g l q h2 r ⟨by simpa using h,F⟩
def FB{u w1:wD}{n:Nat}(e:u.grownBy w1 (some m))(f:m<n):(∀b o,n<=b->b<u.heap.size->w1.cell? ⟨b,o,none⟩=u.cell? ⟨b,o,none⟩)/\(∀b o,n<=b->b<u.heap.size->w1.frozen? ⟨b,o,none⟩=u.frozen? ⟨b,o,none⟩):=by have c:∀b,n<=b->b<u.heap.size->w1.heap[b]? =u.heap[b]? :=λb d h2=>e.block b h2 xL;exact⟨λb o d h2=>Ah0 (w:=u) (c b d h2),λb o d h2=>Aio (w:=u) (c b d h2)⟩
def aI.grown{w':wD}{V:BkV}(h:aI w V B)(g:w.grownBy w' (some m))(i:∃f c,w.heap[m]? =some (.map f c)):aI w' V B:=h.map λb o v _ hc=>by
 have d:b≠m:=by rintro rfl;obtain⟨f,c,e⟩:=i;simp[Aeq,e]at hc
 rw[Ah0 (w:=w) (g.block b (wBk w _ hc) (by simpa using d))];exact hc
def KnP.isMap{C:Int->Int->Sp->Int}(h:KnP w b C):∃d c,w.heap[b]? =some (.map d c):=by obtain⟨D,⟨d,e,f,_⟩,_⟩:=h;exact⟨d,e,f⟩
def bY{u:wD}{c:Option Nat}(h:w.grownBy u c)(o:Obj):w.grownBy (u.alloc o) c:=cZ h (uq.grown_of_alloc u o c)
theorem KnP.alloc{C:Int->Int->Sp->Int}(h:KnP w b C)(o:Obj):KnP (w.alloc o) b C:=h.kept (uq.grown_of_alloc w o none) yW
abbrev bZ(p:Past):vL:=.agg #[iN qi p.start,.bool (p.c 0).made,iN qi (p.c 0).ans,iN qi (p.c 0).clr,.bool (p.c 1).made,iN qi (p.c 1).ans,iN qi (p.c 1).clr,.bool (p.c 2).made,iN qi (p.c 2).ans,iN qi (p.c 2).clr]
def _root_.Go.Meter.Bk.count_eq(B:Bk)(p:Past)(t:Int):B.count p t=B.counted (B.callAt 0).far (p.c 0) t+B.counted (B.callAt 1).far (p.c 1) t+B.counted (B.callAt 2).far (p.c 2) t:=by simp[Bk.count,Aeg];omega
def vY(c:B.Fine){p:Past}(g:p.Ok B){t:Int}(q:t<=200)(i:Nat)(f:i<3):0<=B.counted (B.callAt i).far (p.c i) t/\B.counted (B.callAt i).far (p.c i) t<=9000:=by
 cases d:(p.c i).made with
 |false=>unfold Bk.counted;rw[if_pos (.inl d)];omega
 |true=>
  obtain⟨e,h2,l⟩:=(g.2 i f).1 d;refine Nh c ?_ (λ_=>⟨h2.1,zP⟩) zP;have hc:B.C[i]? =some B.C[i]:=lG e;have:B.callAt i=B.C[i]:=by unfold Bk.callAt;rw[hc];rfl
  rw[this];exact(c.call i _ hc).zone
def YJ(a0 a1 d c e f g i l:vL)(w:wD):(Ac2 130 (.agg #[a0,a1,d,c,e,f,g,i,l]) (iN qi 0)).run tP w=.ok (.agg #[a0,a1,d]) w/\(Ac2 130 (.agg #[a0,a1,d,c,e,f,g,i,l]) (iN qi 1)).run tP w=.ok (.agg #[c,e,f]) w/\(Ac2 130 (.agg #[a0,a1,d,c,e,f,g,i,l]) (iN qi 2)).run tP w=.ok (.agg #[g,i,l]) w:=by have u3:=underlying129;have c:=isAgg129;have p:=sizeOf129;unfold Ac2;simp only[Sem.run_bind,run_underlying underlying130,Result.andThen_ok];refine⟨?_,?_,?_⟩<;>go_simp
def c90(V:BkV)(B:Bk)(G:B.Fine)(m:Nat)(t:Int)(p:Past)(w:wD)(f:aI w V B)(H:KnP w m (cnt B))(F:p.Ok B)(I:t<=200):
 cF tP 90 #[ctr V B m,bZ p,iN qi t] w λe U=>e=rT (iN qi (B.count p t))/\KnP U m (cnt B)/\w.grownBy U (some m):=by
 have c:=H.lt;obtain⟨r,d⟩:∃r:Nat->Int,∀i,r i=B.counted (B.callAt i).far (p.c i) t:=⟨_,λ_=>rfl⟩;have M:Hid (∀(i:Nat) (u:wD) (x:Int),x=(i:Int)->i<3->w.grownBy u (some m)->KnP u m (cnt B)->cF tP 137 #[ctr V B m,kJ x t (p.c i)] u λe J=>e=rT (iN qi (r i))/\KnP J m (cnt B)/\u.grownBy J (some m)/\w.grownBy J (some m)):=lH λi u x hx hi T R=>by rw[hx,d i];exact(YI V B G m i t (p.c i) u (f.grown T H.isMap) R (F.2 i hi).1 I).mono λe J ⟨Y,h2,S⟩=>⟨Y,h2,S,cZ T S⟩
 have q0:=vY G F I 0 zP;have q1:=vY G F I 1 zP;have q2:=vY G F I 2 zP;have N:=Bk.count_eq B p t;rw[<-d]at q0 q1 q2;rw[<-d,<-d,<-d]at N;have W:=lH N;have X:=lH H;clear f H F d N;obtain⟨za,la,ca,pa,zc,lc,cc,pc⟩:=V;go_enter func90,ntmps90;go_wp2;have hx:=YJ (.bool (p.c 0).made) (iN qi (p.c 0).ans) (iN qi (p.c 0).clr) (.bool (p.c 1).made) (iN qi (p.c 1).ans) (iN qi (p.c 1).clr) (.bool (p.c 2).made) (iN qi (p.c 2).ans) (iN qi (p.c 2).clr);have aj:=λw=>(hx w).1;have ak:=λw=>(hx w).2.1;have al:=λw=>(hx w).2.2;clear hx;refine wp_loop_rounds 4 ?_;rw[Aja]
 go_wp2_with (go_at_call 137;refine(M.out 0 _ 0 rfl zP (bY (bY (bY (eF _ _) _) _) _) (((X.out.alloc _).alloc _).alloc _)).mono ?_;rintro e K ⟨rfl,O,g,A⟩;obtain⟨ad,ag⟩:=FB g c;have am:w.heap.size+3<=K.heap.size:=(by have:=g.size;simpa using this);have Z:w.heap.size<K.heap.size:=zP;have ab:w.heap.size+1<K.heap.size:=zP)
 rw[Aja]
 go_wp2_with (go_at_call 137;refine(M.out 1 _ 1 rfl zP (bY A _) (O.alloc _)).mono ?_;rintro e L ⟨rfl,P,l,D⟩;obtain⟨ae,ah⟩:=FB l c;have an:K.heap.size+1<=L.heap.size:=(by have:=l.size;simpa using this);have aa:w.heap.size<L.heap.size:=zP;have ac:w.heap.size+1<L.heap.size:=zP)
 rw[Aja]
 go_wp2_with (go_at_call 137;refine(M.out 2 _ 2 rfl zP (bY D _) (P.alloc _)).mono ?_;rintro e w3 ⟨rfl,Q,q,E⟩;obtain⟨af,ai⟩:=FB q c;have ao:L.heap.size+1<=w3.heap.size:=(by have:=q.size;simpa using this))
 rw[Aja];go_wp2;go_ret;exact⟨by rw[W.out];rfl,Q,E⟩
def yu{d:Int}(h:1<=d/\d<=4):1<=numbers d/\numbers d<=10000:=by
 have:d=1\/d=2\/d=3\/d=4:=zP
 rcases this with rfl|rfl|rfl|rfl<;>decide
theorem _root_.Go.Meter.Bk.Fine.lineAt(c:B.Fine)(d:k<B.L.length):∃x,B.L[k]? =some x/\B.lineAt (k:Int)=x/\x.Fine:=by have h:B.L[k]? =some B.L[k]:=lG d;exact⟨_,h,by unfold Bk.lineAt;simp[h],c.line k _ h⟩
def BD(c:B.Fine){p:Past}(d:p.Ok B){t:Int}(e:t<=200):0<=B.count p t/\B.count p t<=27000:=by rw[Bk.count_eq];have f:=vY c d e 0 zP;have g:=vY c d e 1 zP;have i:=vY c d e 2 zP;omega
def c93(V:BkV)(B:Bk)(S:B.Fine)(m k:Nat)(t:Int)(p:Past)(w:wD)(E:aI w V B)(g:KnP w m (cnt B))(O:p.Ok B)(hl:k<B.L.length)(ht:t<=200):
 cF tP 93 #[ctr V B m,iN qi (k:Int),bZ p,iN qi t] w λe w'=>e=rT (iN qi (B.shows k p t))/\KnP w' m (cnt B)/\w.grownBy w' (some m):=by
 obtain⟨x,hx,L,ab⟩:=S.lineAt hl;obtain⟨i,l,I,y0,y1,y2,y3⟩:=E.L k x hx;have hb:=BD S O ht;have hd:=ab.digits;have Y:=yu hd;have ae:=O.1;obtain⟨r,hr⟩:∃r,B.count p t=r:=⟨_,rfl⟩;have P:B.shows k p t=(p.start+r) % numbers x.digits:=by unfold Bk.shows;rw[L,hr]
 rw[hr]at hb;obtain⟨N,T⟩:∃N,numbers x.digits=N:=⟨_,rfl⟩;rw[T]at P Y;obtain⟨d,H⟩:∃d:Nat,x.digits=(d:Int):=⟨x.digits.toNat,zP⟩;have Q:Hid (∀u:wD,w.grownBy u (some m)->KnP u m (cnt B)->cF tP 90 #[ctr V B m,bZ p,iN qi t] u λe F=>e=rT (iN qi r)/\u.grownBy F (some m)/\KnP F m (cnt B)):=lH λu M U=>by rw[<-hr];exact(c90 V B S m t p u (E.grown M g.isMap) U O ht).mono λe F ⟨R,h2,h3⟩=>⟨R,h3,h2⟩
 have G:Hid (∀u:wD,cF tP 140 #[iN qi x.digits] u λe F=>e=rT (iN qi N)/\u=F):=lH λu=>by rw[<-T,H];exact LQ d zP u
 have hw:IntKind.wrap qi (p.start+r)=p.start+r:=Ai5 _ zP;have hq:Int.tmod (p.start+r) N=(p.start+r) % N:=Int.tmod_eq_emod_of_nonneg zP;have Z:0<=(p.start+r) % N:=Int.emod_nonneg _ zP;have aa:(p.start+r) % N<N:=Int.emod_lt_of_pos _ zP;have ac:¬N=0:=zP
 obtain⟨q,K⟩:∃q,(p.start+r) % N=q:=⟨_,rfl⟩;rw[K]at P hq Z aa;have af:IntKind.wrap qi q=q:=Ai5 _ zP;have Hs:=lH P;have Hk:=lH g;have Hm:=lH g.isMap;have ad:=g.lt;have X:=wBk w _ y0;simp only at X;obtain⟨za,la,D,pa,zc,lc,cc,pc⟩:=V;simp only at I;subst I;clear P hr T H K L hx E g O;go_enter func93,ntmps93;go_wp2;refine uq (z:=100) (some m) (λu=>KnP u m (cnt B)) ?_ (λu o h=>h.alloc o) 18 0 [9,10,11,12,13,14,15,16,17,18,19,20,21,22,23,24,25,8] [] (λ_=>default) (λ_=>[pN (some ⟨w.heap.size+1,0,none⟩),iN qi p.start,.agg #[iN qi B.day,iN qi B.D,iN qi B.U,sL za B.Z.length zc,sL (some ⟨i,l,none⟩) B.L.length lc,sL D B.C.length cc,sL pa B.P.length pc,.map (some m)],bZ p,iN qi t,iN qi r,iN qi (p.start+r),pN (some ⟨w.heap.size,0,none⟩),pN (some ⟨w.heap.size,0,none⟩),pN (some ⟨w.heap.size,4,none⟩),sL (some ⟨i,l,none⟩) B.L.length lc,iN qi (k:Int),pN (some ⟨i,l+k*4,none⟩),pN (some ⟨i,l+k*4+1,none⟩),iN qi x.digits,iN qi N,iN qi q,iN qi q]) xD rfl xD (λ_=>rfl) (by intro j e;cases e;simp;omega) λbs A hA=>?_
 ·exact((Hk.out.alloc _).alloc _).kept (row:=none) ⟨rfl,rfl,rfl,nR _,λ_ _ _=>rfl⟩ yW
 simp only[jk,Act.put,Ail,Ais,Ait]at hA;subst hA;have hW:Cells ((w.alloc (cL #[iN qi B.day,iN qi B.D,iN qi B.U,sL za B.Z.length zc,sL (some ⟨i,l,none⟩) B.L.length lc,sL D B.C.length cc,sL pa B.P.length pc,.map (some m)] 115)).alloc (cL #[iN qi p.start,.bool (p.c 0).made,iN qi (p.c 0).ans,iN qi (p.c 0).clr,.bool (p.c 1).made,iN qi (p.c 1).ans,iN qi (p.c 1).clr,.bool (p.c 2).made,iN qi (p.c 2).ans,iN qi (p.c 2).clr] 132)).drew [(⟨w.heap.size,0,none⟩,iN qi B.day),(⟨w.heap.size,1,none⟩,iN qi B.D),(⟨w.heap.size,2,none⟩,iN qi B.U),(⟨w.heap.size,3,none⟩,sL za B.Z.length zc),(⟨w.heap.size,4,none⟩,sL (some ⟨i,l,none⟩) B.L.length lc),(⟨w.heap.size,5,none⟩,sL D B.C.length cc),(⟨w.heap.size,6,none⟩,sL pa B.P.length pc),(⟨w.heap.size,7,none⟩,.map (some m)),
  (⟨w.heap.size+1,0,none⟩,iN qi p.start),(⟨w.heap.size+1,1,none⟩,.bool (p.c 0).made),(⟨w.heap.size+1,2,none⟩,iN qi (p.c 0).ans),(⟨w.heap.size+1,3,none⟩,iN qi (p.c 0).clr),(⟨w.heap.size+1,4,none⟩,.bool (p.c 1).made),(⟨w.heap.size+1,5,none⟩,iN qi (p.c 1).ans),(⟨w.heap.size+1,6,none⟩,iN qi (p.c 1).clr),(⟨w.heap.size+1,7,none⟩,.bool (p.c 2).made),(⟨w.heap.size+1,8,none⟩,iN qi (p.c 2).ans),(⟨w.heap.size+1,9,none⟩,iN qi (p.c 2).clr),(⟨i,l+k*4+1,none⟩,iN qi x.digits)]:=by
  simp only[Cells,and_true];go_simp
 have M:w.grownBy ((w.alloc (cL #[iN qi B.day,iN qi B.D,iN qi B.U,sL za B.Z.length zc,sL (some ⟨i,l,none⟩) B.L.length lc,sL D B.C.length cc,sL pa B.P.length pc,.map (some m)] 115)).alloc (cL #[iN qi p.start,.bool (p.c 0).made,iN qi (p.c 0).ans,iN qi (p.c 0).clr,.bool (p.c 1).made,iN qi (p.c 1).ans,iN qi (p.c 1).clr,.bool (p.c 2).made,iN qi (p.c 2).ans,iN qi (p.c 2).clr] 132)).drew (some m):=cZ (bY (bY (eF _ _) _) _) ⟨rfl,rfl,rfl,nR _,λ_ _ _=>rfl⟩;have J:∀j,some m=some j->∃es c,((w.alloc (cL #[iN qi B.day,iN qi B.D,iN qi B.U,sL za B.Z.length zc,sL (some ⟨i,l,none⟩) B.L.length lc,sL D B.C.length cc,sL pa B.P.length pc,.map (some m)] 115)).alloc (cL #[iN qi p.start,.bool (p.c 0).made,iN qi (p.c 0).ans,iN qi (p.c 0).clr,.bool (p.c 1).made,iN qi (p.c 1).ans,iN qi (p.c 1).clr,.bool (p.c 2).made,iN qi (p.c 2).ans,iN qi (p.c 2).clr] 132)).drew.heap[j]? =some (.map es c):=λj e=>by
  cases e
  exact((Hk.out.alloc _).alloc _).isMap
 generalize ((w.alloc (cL #[iN qi B.day,iN qi B.D,iN qi B.U,sL za B.Z.length zc,sL (some ⟨i,l,none⟩) B.L.length lc,sL D B.C.length cc,sL pa B.P.length pc,.map (some m)] 115)).alloc (cL #[iN qi p.start,.bool (p.c 0).made,iN qi (p.c 0).ans,iN qi (p.c 0).clr,.bool (p.c 1).made,iN qi (p.c 1).ans,iN qi (p.c 1).clr,.bool (p.c 2).made,iN qi (p.c 2).ans,iN qi (p.c 2).clr] 132))=W at*;clear y0 y1 y2 y3;refine⟨?_,λu f hB _=>?_⟩
 ·iterate 5 refine dL (λu f=>by have h:=hW.grown f.1 J;simp only[Cells,and_true]at h;go_simp) ?_
  refine ql 90 #[.agg #[iN qi B.day,iN qi B.D,iN qi B.U,sL za B.Z.length zc,sL (some ⟨i,l,none⟩) B.L.length lc,sL D B.C.length cc,sL pa B.P.length pc,.map (some m)],bZ p,iN qi t] (λu f=>by go_simp) (λu f=>Q.out u (cZ M f.1) f.2) ?_
  iterate 9 refine dL (λu f=>by have h:=hW.grown f.1 J;simp only[Cells,and_true]at h;go_simp) ?_
  refine ql 140 #[iN qi x.digits] (λu f=>by go_simp) (λu f=>(G.out u).mono λe F ⟨R,h2⟩=>⟨R,h2▸eF _ _,h2▸f.2⟩) ?_;exact dL (λu f=>by go_simp) (dL (λu f=>by go_simp) rM)
 refine qj (hr:=by kernel_rfl) ?_
 go_wp2;go_ret;exact⟨by rw[Hs.out];rfl,f.2,cZ M f.1⟩
def gB(f:Nat->Int)(k:Nat):Array vL:=#[iN qi (if 0<k then f 0 else 0),iN qi (if 1<k then f 1 else 0),iN qi (if 2<k then f 2 else 0),iN qi (if 3<k then f 3 else 0)]
def YK(f:Nat->Int)(c:k<4)(d:v=f k):(gB f k).setIfInBounds k (iN qi v)=gB f (k+1):=by
 subst d
 match k,c with
 |0,_|1,_|2,_|3,_=>simp[gB]
def YL(f:Nat->Int)(c:k<4)(x:vL)(d:v=f k):((gB f k).setIfInBounds k x).setIfInBounds k (iN qi v)=gB f (k+1):=by
 subst d
 match k,c with
 |0,_|1,_|2,_|3,_=>simp[gB]
def YM(f:Nat->Int)(k:Nat){j:Nat}(c:j<4):∃x,(gB f k)[j]? =some (iN qi x):=by
 match j,c with
 |0,_|1,_|2,_|3,_=>exact⟨_,rfl⟩
def dgv(s:ByteArray)(n:Int)(j:Nat):Int:=if s.get! (s.size-1-j)=63 then -1 else n / 10^j % 10
def rdv(s:ByteArray)(j:Nat):Int:=if s.get! (s.size-1-j)=63 then -1 else((s.get! (s.size-1-j)).toNat:Int)-48
def Four(w:wD)(b:Nat)(a:Array vL):Prop:=w.heap[b]? =some (cL a 256 (0,0))
theorem Four.set(h:Four w b a)(v:vL):Four (w.setCell ⟨b,k,none⟩ v) b (a.setIfInBounds k v):=by unfold Four at*;simp[World.setCell,Array.getElem?_modify,h]
def Four.far{c:Nat}(h:Four w b a)(v:vL)(d:b≠c):Four (w.setCell ⟨c,k,none⟩ v) b a:=by unfold Four at*;rw[Aix _ _ _ b d];exact h
def Four.below{w':wD}{n:Nat}(h:Four w b a)(c:bX n w w')(hn:b<n):Four w' b a:=by unfold Four at*; rw[c.block b hn];exact h
def get!_eq{s:ByteArray}{i:Nat}(h:i<s.size):s.get! i=s[i]:=by
 cases s with
 |mk a=>exact getElem!_pos a i h
def div_pow(n:Int)(k:Nat):n / 10^(k+1)=n / 10^k / 10:=by rw[Int.pow_succ,Int.ediv_ediv_of_nonneg (Int.pow_nonneg zE)]
def Four.cells{w:wD}{b:Nat}{a0 a1 c d:vL}(h:Four w b #[a0,a1,c,d]):(w.cell? ⟨b,0,none⟩=some a0/\w.cell? ⟨b,1,none⟩=some a1/\w.cell? ⟨b,2,none⟩=some c/\w.cell? ⟨b,3,none⟩=some d)/\(w.frozen? ⟨b,0,none⟩=false/\w.frozen? ⟨b,1,none⟩=false/\w.frozen? ⟨b,2,none⟩=false/\w.frozen? ⟨b,3,none⟩=false):=by unfold Four at h;simp[Aeq,Aem,h]
def BF(f:Nat->Int)(k:Nat):∃a0 a1 c d:Int,gB f k=#[iN qi a0,iN qi a1,iN qi c,iN qi d]:=⟨_,_,_,_,rfl⟩
def YN(s:ByteArray)(n:Int)(hn:0<=n/\n<=9999)(R:s.size<=4)(w:wD):
 cF tP 211 #[iN qi n,.string s] w λe N=>e=rT (.agg (gB (dgv s n) s.size))/\bX w.heap.size w N:=by
 go_enter func211,ntmps211;go_wp2
 go_loopw [0,9] (λm i wr=>∃k:Nat,k<=s.size/\i=iN qi (k:Int)/\m=iN qi (n / 10^k)/\Four wr w.heap.size (gB (λ_=>0) 0)/\Four wr (w.heap.size+1) (gB (dgv s n) k)/\bX w.heap.size w wr) (λ_ i _=>s.size-(intOf i).toNat)
 case atStart=>
  refine⟨0,Aih _,rfl,yW,?_,?_,((bR _ _).alloc (nR _) _).alloc yW _⟩
  ·show (_:Array Obj)[_]? =_
   rw[Ai3 _ _ _ yW];exact(Aiv w _).1
  have:=(Aiv (w.alloc (cL #[iN qi 0,iN qi 0,iN qi 0,iN qi 0] 256)) (cL #[iN qi 0,iN qi 0,iN qi 0,iN qi 0] 256)).1;simpa[Four,gB]using this
 case round=>
  obtain⟨k,P,rfl,rfl,l,c,q⟩:=hrel;have T:w.heap.size+1<wr.heap.size:=(aS.1 c).1;by_cases hlt:k<s.size
  ·obtain⟨x,hx⟩:=YM (dgv s n) k (show k<4 by omega);have hc:wr.cell? ⟨w.heap.size+1,k,none⟩=some (iN qi x):=by unfold Four at c;simp[Aeq,c,hx]
   have O:wr.frozen? ⟨w.heap.size+1,k,none⟩=false:=by unfold Four at c;simp[Aem,c]
   have g:0<=n / 10^k:=Int.ediv_nonneg hn.1 (Int.pow_nonneg zE);have I:n / 10^k<=9999:=Int.le_trans (Int.ediv_le_self _ hn.1) hn.2;have F:=get!_eq (s:=s) (i:=s.size-1-k) zP;have f:=div_pow n k;have A:=lH l;have D:=lH c;have Hb:=lH q;have E:=lH F;have d:=lH f;clear l c q hx F f;have S:RowKit.wrap64 ((n / 10^k).tdiv 10)=n / 10^k / 10:=by rw[Int.tdiv_eq_ediv_of_nonneg g];exact IntWalk.wrap64_in _ zP
   have Q:(n / 10^k).tmod 10=n / 10^k % 10:=Int.tmod_eq_emod_of_nonneg g;go_wp2
   all_goals go_roundw
   case rel=>
    rename_i t;refine⟨k+1,zP,by go_num,by rw[d.out],(A.out.far _ zP).far _ zP,?_,(Hb.out.setCell (p:=⟨w.heap.size+1,k,none⟩) yW _).setCell (p:=⟨w.heap.size+1,k,none⟩) yW _⟩;have h2:=(D.out.set (k:=k) (iN qi (n / 10^k % 10))).set (k:=k) (iN qi (-1));rwa [YL (dgv s n) zP _ (by
     unfold dgv;rw[if_pos];rw[E.out];have:(s[s.size-1-k].toNat:Int)=63:=by simpa using t
     exact UInt8.toNat_inj.1 xL)]at h2
   case measure=>simp[intOf];omega
   case rel=>
    rename_i t;refine⟨k+1,zP,by go_num,by rw[d.out],A.out.far _ zP,?_,Hb.out.setCell (p:=⟨w.heap.size+1,k,none⟩) yW _⟩;have h2:=D.out.set (k:=k) (iN qi (n / 10^k % 10));rwa [YK (dgv s n) zP (by unfold dgv;rw[if_neg];rw[E.out];intro e;simp[e]at t)]at h2
   case measure=>simp[intOf];omega
  have e:k=s.size:=zP
  subst e;obtain⟨a0,a1,G,H,r⟩:=BF (dgv s n) s.size;rw[r]at c;obtain⟨⟨Z,q1,q2,q3⟩,_⟩:=c.cells;obtain⟨⟨J,K,L,M⟩,U,W,X,Y⟩:=l.cells;have Ha:=lH r;have Hb:=lH q;clear l c r q;go_wp2;refine Ai8 (v:=.agg #[iN qi a0,iN qi a1,iN qi G,iN qi H]) (by simp[results,results211,go_sem,J,K,L,M]) rfl ⟨by rw[Ha.out],?_⟩;exact(((Hb.out.setCell (p:=⟨w.heap.size,0,none⟩) (nR _) _).setCell (p:=⟨w.heap.size,1,none⟩) (nR _) _).setCell (p:=⟨w.heap.size,2,none⟩) (nR _) _).setCell (p:=⟨w.heap.size,3,none⟩) (nR _) _
def jq(P:Nat->Bool)(f:Nat->Int):Array vL:=#[iN qi (if P 0 then f 0 else 0),iN qi (if P 1 then f 1 else 0),iN qi (if P 2 then f 2 else 0),iN qi (if P 3 then f 3 else 0)]
def Nj(P:Nat->Bool)(f:Nat->Int)(c:k<4)(d:v=f k):(jq P f).setIfInBounds k (iN qi v)=jq (λi=>P i||i==k) f/\∀x,((jq P f).setIfInBounds k x).setIfInBounds k (iN qi v)=jq (λi=>P i||i==k) f:=by
 subst d
 match k,c with
 |0,_|1,_|2,_|3,_=>simp[jq]
def YO(P:Nat->Bool)(f:Nat->Int){j:Nat}(c:j<4):∃x,(jq P f)[j]? =some (iN qi x):=by
 match j,c with
 |0,_|1,_|2,_|3,_=>exact⟨_,rfl⟩
def FD{P Q:Nat->Bool}(f:Nat->Int)(h:∀i,i<4->P i=Q i):jq P f=jq Q f:=by unfold jq;rw[h 0 zP,h 1 zP,h 2 zP,h 3 zP]
def Nk(s:ByteArray):Prop:=∀i,i<s.size->s.get! i=63\/(48<=(s.get! i).toNat/\(s.get! i).toNat<=57)
def c212(s:ByteArray)(hs:s.size<=4)(hd:Nk s)(w:wD):
 cF tP 212 #[.string s] w λe w'=>e=rT (.agg (gB (rdv s) s.size))/\bX w.heap.size w w':=by
 go_enter func212,ntmps212;go_wp2
 go_loopw [4] (λ_ wr=>∃k:Nat,k<=s.size/\Four wr w.heap.size (gB (λ_=>0) 0)/\Four wr (w.heap.size+1) (jq (λi=>decide (s.size<=i+k/\i<s.size)) (rdv s))/\wr.heap[w.heap.size+2]? =some (.stringIter s k)/\bX w.heap.size w wr) (λ_ wr=>s.size-wr.iterPos (w.heap.size+2))
 case atStart=>
  have L:∀v:wD,v.iter s 0=v.alloc (.stringIter s 0):=λ_=>rfl;rw[L];have Z:=(Aiv w (cL #[iN qi 0,iN qi 0,iN qi 0,iN qi 0] 256)).1;have e1:=(Aiv (w.alloc (cL #[iN qi 0,iN qi 0,iN qi 0,iN qi 0] 256)) (cL #[iN qi 0,iN qi 0,iN qi 0,iN qi 0] 256)).1;have S:=(Aiv ((w.alloc (cL #[iN qi 0,iN qi 0,iN qi 0,iN qi 0] 256)).alloc (cL #[iN qi 0,iN qi 0,iN qi 0,iN qi 0] 256)) (.stringIter s 0)).1;refine⟨0,Aih _,?_,?_,by rw[Ai2,Ai2]at S;exact S,(((bR _ _).alloc (nR _) _).alloc yW _).alloc xL _⟩
  ·show (_:Array Obj)[_]? =_
   rw[Ai3 _ _ _ xL,Ai3 _ _ _ yW];exact Z
  show (_:Array Obj)[_]? =_
  rw[Ai3 _ _ _ yW];rw[FD (Q:=λ_=>false) _ (λi _=>yW)];simpa[jq]using e1
 case round=>
  obtain⟨k,hk,H,g,h2,I⟩:=hrel;have hz:w.heap.size+2<wr.heap.size:=(aS.1 h2).1;by_cases hlt:k<s.size
  ·have J:=get!_eq hlt;have A:=hd k hlt;rw[J]at A;have t:(s[k]'hlt).toNat<128:=by
    rcases A with e|e
    ·rw[e];decide
    omega
   have T:Four (wr.iterAt (w.heap.size+2) s (k+1)) w.heap.size (gB (λ_=>0) 0):=by unfold Four;rw[Air _ _ _ _ _ zP];exact H
   have q:Four (wr.iterAt (w.heap.size+2) s (k+1)) (w.heap.size+1) (jq (λi=>decide (s.size<=i+k/\i<s.size)) (rdv s)):=by unfold Four;rw[Air _ _ _ _ _ zP];exact g
   have U:=Aiw wr _ s k (k+1) h2;have W:bX w.heap.size w (wr.iterAt (w.heap.size+2) s (k+1)):=I.trans ⟨rfl,rfl,rfl,by simp[World.iterAt],λj K=>Air _ _ _ _ _ zP⟩;have d:wr.iterPos (w.heap.size+2)=k:=by simp[Ai7,h2]
   generalize E:wr.iterAt (w.heap.size+2) s (k+1)=F at*;have M:∀l,(Adi (pN (some ⟨w.heap.size+2,0,none⟩)) true l).run tP wr=.ok (.tuple #[.bool true,iN qi k,.int .i32 (s[k]'hlt).toNat]) F:=λl=>by rw[<-E];exact Go.Lib.run_next_ascii_at wr _ s k l h2 hlt t
   have K:s.size-1-k<4:=zP
   obtain⟨x,hx⟩:=YO (λi=>decide (s.size<=i+k/\i<s.size)) (rdv s) K;have hc:F.cell? ⟨w.heap.size+1,s.size-1-k,none⟩=some (iN qi x):=by unfold Four at q;simp only[Aeq,q,hx];rfl
   have hf:F.frozen? ⟨w.heap.size+1,s.size-1-k,none⟩=false:=by unfold Four at q;simp[Aem,q]
   have O:=lH T;have P:=lH q;have G:=lH U;have R:=lH W;have Hg:=lH J;have c:=lH d;have D:s.get! (s.size-1-(s.size-1-k))=s[k]:=by rw[show s.size-1-(s.size-1-k)=k by omega];exact J
   have f:=lH D;have r:Hid (∀a,Four a (w.heap.size+1) (jq (λi=>decide (s.size<=i+k/\i<s.size)||i==s.size-1-k) (rdv s))->Four a (w.heap.size+1) (jq (λi=>decide (s.size<=i+(k+1)/\i<s.size)) (rdv s))):=lH λa h=>by
    rwa [FD (Q:=λi=>decide (s.size<=i+(k+1)/\i<s.size)) _ (λi _=>by rw[Ai4];simp only[Afd,decide_eq_true_eq,beq_iff_eq];omega)]at h
   clear H g h2 I hx T q U W J D d E;have aa:(s[k]'hlt).toNat<256:=zP
   go_wp2
   all_goals go_roundw
   case rel=>
    rename_i N;refine⟨k+1,zP,(O.out.far _ zP).far _ zP,r.out _ ?_,?_,(R.out.setCell (p:=⟨w.heap.size+1,s.size-1-k,none⟩) yW _).setCell (p:=⟨w.heap.size+1,s.size-1-k,none⟩) yW _⟩
    ·have h2:=(P.out.set (k:=s.size-1-k) (iN qi ((s[k].toNat:Int)-48))).set (k:=s.size-1-k) (iN qi (-1));rwa [(Nj _ (rdv s) K (v:= -1) (by
      unfold rdv;rw[if_pos];rw[f.out];have:(s[k].toNat:Int)=63:=by simpa using N
      exact UInt8.toNat_inj.1 xL)).2]at h2
    rw[Aix _ _ _ _ yW,Aix _ _ _ _ yW];exact G.out
   case measure=>
    have h2:((F.setCell ⟨w.heap.size+1,s.size-1-k,none⟩ (iN qi ((s[k].toNat:Int)-48))).setCell ⟨w.heap.size+1,s.size-1-k,none⟩ (iN qi (-1))).heap[w.heap.size+2]? =some (.stringIter s (k+1)):=by rw[Aix _ _ _ _ yW,Aix _ _ _ _ yW];exact G.out
    rw[c.out];simp only[Ai7,h2];omega
   case rel=>
    rename_i N;refine⟨k+1,zP,O.out.far _ zP,r.out _ ?_,?_,R.out.setCell (p:=⟨w.heap.size+1,s.size-1-k,none⟩) yW _⟩
    ·have h2:=P.out.set (k:=s.size-1-k) (iN qi ((s[k].toNat:Int)-48));rwa [(Nj _ (rdv s) K (by unfold rdv;rw[if_neg,f.out];rw[f.out];intro e;simp[e]at N)).1]at h2
    rw[Aix _ _ _ _ yW];exact G.out
   case measure=>
    have h2:(F.setCell ⟨w.heap.size+1,s.size-1-k,none⟩ (iN qi ((s[k].toNat:Int)-48))).heap[w.heap.size+2]? =some (.stringIter s (k+1)):=by rw[Aix _ _ _ _ yW];exact G.out
    rw[c.out];simp only[Ai7,h2];omega
  have M:∀l,(Adi (pN (some ⟨w.heap.size+2,0,none⟩)) true l).run tP wr=.ok (.tuple #[.bool false]) wr:=λl=>Aip wr _ s k l h2 hlt;have e:k=s.size:=zP
  subst e;have g:Four wr (w.heap.size+1) (gB (rdv s) s.size):=by
   have:gB (rdv s) s.size=jq (λi=>decide (i<s.size)) (rdv s):=by simp[gB,jq]
   rw[this];rwa [FD (Q:=λi=>decide (i<s.size)) _ (λi _=>by rw[Ai4];simp)]at g
  obtain⟨a0,a1,X,Y,t⟩:=BF (rdv s) s.size;rw[t]at g;obtain⟨⟨q0,q1,q2,q3⟩,_⟩:=g.cells;obtain⟨⟨r0,r1,r2,r3⟩,p0,p1,p2,p3⟩:=H.cells;have Ha:=lH t;have Hb:=lH I;clear H g h2 I t;go_wp2;refine Ai8 (v:=.agg #[iN qi a0,iN qi a1,iN qi X,iN qi Y]) (by simp[results,results212,go_sem,r0,r1,r2,r3]) rfl ⟨by rw[Ha.out],?_⟩;exact(((Hb.out.setCell (p:=⟨w.heap.size,0,none⟩) (nR _) _).setCell (p:=⟨w.heap.size,1,none⟩) (nR _) _).setCell (p:=⟨w.heap.size,2,none⟩) (nR _) _).setCell (p:=⟨w.heap.size,3,none⟩) (nR _) _
end Go.Proofs.Y
namespace Go.Proofs.Y
open Go.RowKit Go.Tp Go.Meter
variable {w u:wD} {B:Bk} {n base:Nat} {v:vL} {V:BkV}
def FH{a b d c:Int}(h:narrowOk a b d c=true):d<=a/\a<=b/\b<=c/\b-a<3:=by simpa[narrowOk]using h
theorem Nl:∀(l:List Zn) (p:Option Int),jH p l=0->∀z∈l,(0<=z.far/\z.far<=999)/\(0<=z.day/\z.day<=9)/\(0<=z.night/\z.night<=9)/\(0<=z.least/\z.least<=99)
 |[],_,_,z,c=>by cases c
 |x::l,p,h,z,c=>by
  unfold jH at h
  split at h
  ·simp at h
  rename_i e
  split at h
  ·simp at h
  split at h
  ·simp at h
  rename_i d
  rcases Ab3.1 c with rfl|c
  ·simp only[Ai0,Aal]at e d;exact⟨bJ e,bJ d.1.1,bJ d.1.2,bJ d.2⟩
  exact Nl l _ h z c
theorem Np:∀(l c:List Ln),jI c l=0->∀x∈l,x.Fine
 |[],_,_,x,hx=>by cases hx
 |y::l,c,h,x,hx=>by
  unfold jI at h
  split at h
  ·simp at h
  split at h
  ·simp at h
  split at h
  ·simp at h
  rename_i d
  rcases Ab3.1 hx with rfl|hx
  ·simp only[Ai0,Aal]at d;have h4:=FH d.2;exact⟨bJ d.1,h4.1,h4.2.1,zP,h4.2.2.2⟩
  exact Np l _ h x hx
theorem Nq{B:Bk}:∀(l:List Cl),kH B l=0->∀c∈l,qm B c=0
 |[],_,c,hc=>by cases hc
 |y::l,h,c,hc=>by
  unfold kH at h
  split at h
  ·rename_i d
   rcases Ab3.1 hc with rfl|hc
   ·exact d
   exact Nq l h c hc
  rename_i d;exact absurd h d
theorem Nr{B:Bk}:∀(l:List Pt),fF B l=0->∀c∈l,jm B c=0
 |[],_,c,hc=>by cases hc
 |y::l,h,c,hc=>by
  unfold fF at h
  split at h
  ·rename_i d
   rcases Ab3.1 hc with rfl|hc
   ·exact d
   exact Nr l h c hc
  rename_i d;exact absurd h d
def YP{c:Cl}(h:qm B c=0):c.Fine B:=by
 unfold qm at h
 split at h
 ·simp at h
 rename_i e
 split at h
 ·simp at h
 rename_i h2
 split at h
 ·simp at h
 rename_i g
 split at h
 ·simp at h
 rename_i h4
 split at h
 ·simp at h
 rename_i h5
 split at h
 ·simp at h
 rename_i h6
 split at h
 ·simp at h
 rename_i r;simp only[Ai0]at e h2 h4 h5;have a1:=bJ e;have f:=bJ h2;have p:=FH h4;have q:=FH h5;refine⟨zP,f,?_,zP,zP,zP,zP⟩
 cases d:B.zoneIx c.far with
 |none=>exact absurd d g
 |some i=>
  have l:i<B.Z.length:=by unfold Bk.zoneIx at d;rw[Aik]at d;exact d.1
  exact⟨i,B.Z[i],rfl,lG l⟩
def YQ{p:Pt}(h:jm B p=0):p.Fine B:=by
 unfold jm at h
 split at h
 ·simp at h
 rename_i d
 split at h
 ·simp at h
 rename_i h2
 split at h
 ·simp at h
 rename_i l
 split at h
 ·simp at h
 rename_i h4;simp only[Ai0]at d h2 h4;have a1:=bJ d;have f:=bJ h2;refine⟨zP,f,zP,λi e=>?_⟩;have c:=Fz e h4;have g:p.shows.get! i=p.shows[i]:=get!_eq e;rw[g];simp only[gW,btw,Afd,beq_iff_eq,decide_eq_true_eq]at c
 rcases c with c|c
 ·left;exact UInt8.toNat_inj.1 xL
 right;omega
def YR(h:aV B=0):kE B=0/\ji B=0/\jl B=0/\iH B=0/\jo B=0:=by
 unfold aV at h;simp only[vV,alK]at h
 split at h
 ·rename_i c
  split at h
  ·rename_i d
   split at h
   ·rename_i h2
    split at h
    ·rename_i e
     split at h
     ·rename_i h4;exact⟨c,d,h2,e,h4⟩
     rename_i h4;exact absurd h h4
    rename_i e;exact absurd h e
   rename_i h2;exact absurd h h2
  rename_i d;exact absurd h d
 rename_i c;exact absurd h c
def kK(h:aV B=0):B.Fine:=by
 obtain⟨g,e,h2,f,h4⟩:=YR h;have d:btw B.day 1 60=true/\btw B.D 0 B.day=true/\btw B.U B.D B.day=true:=by
  unfold kE at g
  split at g
  ·rename_i h;simpa[and_assoc]using h
  simp at g
 have z:btw (B.Z.length:Int) 1 3=true/\jH none B.Z=0:=by
  unfold ji at e
  split at e
  ·simp at e
  rename_i h;exact⟨by simpa using h,e⟩
 have l:btw (B.L.length:Int) 1 3=true/\jI [] B.L=0:=by
  unfold jl at h2
  split at h2
  ·simp at h2
  rename_i h;exact⟨by simpa using h,h2⟩
 have c:¬3<B.C.length/\kH B B.C=0:=by
  unfold iH at f
  split at f
  ·simp at f
  rename_i h;exact⟨h,f⟩
 have p:¬5<B.P.length/\fF B B.P=0:=by
  unfold jo at h4
  split at h4
  ·simp at h4
  rename_i h;exact⟨h,h4⟩
 have q:=bJ d.1;have r:=bJ d.2.1;have t:=bJ d.2.2;have D:=bJ z.1;have A:=bJ l.1;exact⟨q,r,t,zP,λi x hx=>Nl _ _ z.2 x (Aiq hx),zP,λi x hx=>Np _ _ l.2 x (Aiq hx),zP,λi x hx=>YP (Nq _ c.2 x (Aiq hx)),zP,λi x hx=>YQ (Nr _ p.2 x (Aiq hx))⟩
abbrev Ns:vL:=.agg #[iN qi 0,iN qi 0,iN qi 0,sL none 0 0,sL none 0 0,sL none 0 0,sL none 0 0]
def eH(B:Bk)(far:Int):Int:=if ¬aV B=0 then aV B else if btw far 0 999=false then 1 else if B.zoneIx far=none then 9 else 0
def BG(V:BkV)(B:Bk)(a:Int):vL:=if a=0 then V.val B else Ns
def Nu(n:Nat):List (Addr×vL):=[(⟨n,0,none⟩,iN qi 0),(⟨n,1,none⟩,iN qi 0),(⟨n,2,none⟩,iN qi 0),(⟨n,3,none⟩,sL none 0 0),(⟨n,4,none⟩,sL none 0 0),(⟨n,5,none⟩,sL none 0 0),(⟨n,6,none⟩,sL none 0 0)]
def YS{W:wD}{l:List (Addr×vL)}(e:dO w V B)(f:dP w)(c:bX w.heap.size w W)(h:Cells W l)(g:∀j,W.frozen? ⟨n,j,none⟩=false)(hn:n<W.heap.size):
 Hid (∀u,bX W.heap.size W u->Hid (bX W.heap.size W u)/\Hid (bX w.heap.size w u)/\Hid (dO u V B)/\Hid (dP u)/\Cells u l/\∀j,u.frozen? ⟨n,j,none⟩=false)/\Hid (bX W.heap.size W W)/\Hid (dO W V B)/\Hid (dP W):=
 ⟨lH λu d=>have q:=c.trans (d.mono c.size);⟨lH d,lH q,lH (e.below q (nR _)),lH (f.below q (nR _)),gV d (nR _) h,λj=>by rw[Aio (w:=W) (d.block n hn)];exact g j⟩,lH (.refl _ _),lH (e.below c (nR _)),lH (f.below c (nR _))⟩
def Nw(V:BkV)(B:Bk)(far:Int)(w:wD)(A:dO w V B)(D:dP w):cF tP 112 #[V.val B,iN qi far] w λe E=>e=rT (.tuple #[BG V B (eH B far),iN qi (eH B far)])/\bX w.heap.size w E:=by
 obtain⟨za,la,i,pa,zc,lc,cc,pc⟩:=V;obtain⟨W,H,hc,t,r,hn⟩:∃W,W=((w.alloc (cL #[iN qi B.day,iN qi B.D,iN qi B.U,sL za B.Z.length zc,sL la B.L.length lc,sL i B.C.length cc,sL pa B.P.length pc] 27)).alloc (cL #[iN qi 0,iN qi 0,iN qi 0,sL none 0 0,sL none 0 0,sL none 0 0,sL none 0 0] 112)).alloc (cL #[iN qi B.day,iN qi B.D,iN qi B.U,sL za B.Z.length zc,sL la B.L.length lc,sL i B.C.length cc,sL pa B.P.length pc] 112)/\Cells W (aB w.heap.size ⟨za,la,i,pa,zc,lc,cc,pc⟩ B++aB (w.heap.size+1+1) ⟨za,la,i,pa,zc,lc,cc,pc⟩ B++Nu (w.heap.size+1))/\(∀j,W.frozen? ⟨w.heap.size+1,j,none⟩=false)/\bX w.heap.size w W/\w.heap.size+1<W.heap.size:=
  ⟨_,rfl,by simp only[aB,Nu,Cells,and_true,List.cons_append,List.nil_append];go_simp,λj=>by go_simp,(((bR _ _).alloc (nR _) _).alloc yW _).alloc xL _,yW⟩
 obtain⟨HF,f,d,g⟩:=YS A D r hc t hn;clear A D r hc t hn;subst H;have H130:=lH (c130 ⟨za,la,i,pa,zc,lc,cc,pc⟩ B far d.out.nz);by_cases G:aV B=0<;>cases h2:btw far 0 999<;>cases q:B.zoneIx far
 all_goals
  go_enter func112,ntmps112
  go_wp2_with (first|(go_at_call 114;refine(dK _ _ _ _).mono ?_;rw[h2];rintro e E ⟨rfl,rfl⟩)|((first|(go_at_call 72;refine(c72 ⟨za,la,i,pa,zc,lc,cc,pc⟩ B _ d.out g.out).mono ?_)|(go_at_call 130;refine(H130.out _ d.out.at_).mono ?_;rw[q];dsimp only[x9]));rintro e w5 ⟨rfl,l⟩;have F:=HF.out _ (f.out.trans (l.mono f.out.size));clear l f d g;obtain⟨f,p,d,g,⟨n0,n1,n2,n3,n4,n5,n6,Y,Z,m2,m3,m4,m5,m6,I,J,K,L,M,N,O,-⟩,c⟩:=F;have P:=c 0;have Q:=c 1;have R:=c 2;have S:=c 3;have T:=c 4;have U:=c 5;have X:=c 6;clear c))
  refine Ai8 (v:=.tuple #[BG ⟨za,la,i,pa,zc,lc,cc,pc⟩ B (eH B far),iN qi (eH B far)]) (by simp[results,results112,go_sem,I,J,K,L,M,N,O,BG,eH,G,h2,q,BkV.val]) rfl ⟨rfl,?_⟩;exact p.out.trans ((((((((bR _ _).setCell yW _).setCell yW _).setCell yW _).setCell yW _).setCell yW _).setCell yW _).setCell yW _)
def FI{far:Int}(g:dO w V B)(i:dP w)(h:eH B far=0):Hid (cF tP 112 #[V.val B,iN qi far] (w.alloc (cL (V.row B) 27)) λe d=>e=rT (.tuple #[V.val B,iN qi 0])/\Hid (bX w.heap.size w d)):=
 have c:bX w.heap.size w (w.alloc (cL (V.row B) 27)):=(bR _ _).alloc (nR _) _
 lH ((Nw V B far _ (g.below c (nR _)) (i.below c (nR _))).mono λe d ⟨f,h2⟩=>⟨by rw[f,h];rfl,lH (c.trans (h2.mono c.size))⟩)
def FK{far:Int}(g:dO w V B)(i:dP w)(h:¬eH B far=0):Hid (cF tP 112 #[V.val B,iN qi far] (w.alloc (cL (V.row B) 27)) λe d=>e=rT (.tuple #[Ns,iN qi (eH B far)])/\Hid (bX w.heap.size w d)):=
 have c:bX w.heap.size w (w.alloc (cL (V.row B) 27)):=(bR _ _).alloc (nR _) _
 lH ((Nw V B far _ (g.below c (nR _)) (i.below c (nR _))).mono λe d ⟨f,h2⟩=>⟨by rw[f,BG,if_neg h],lH (c.trans (h2.mono c.size))⟩)
def aF.below{w':wD}{c:Option Addr}{xs:List Int}(h:aF w c xs)(f:bX n w w')(hn:w.heap.size<=n):aF w' c xs:=λi x hx=>by obtain⟨b,o,e,d⟩:=h i x hx;exact⟨b,o,e,fM f d hn⟩
def YT(f:FuncId)(p:Int->Bool)(J:Option Addr)(xs:List Int)(n E:Nat)(w:wD)(hn:n=xs.length)(I:aF w J xs)(O:xs.length<=1000000)(L:∀(c:Array vL) (u:wD),(callFunc f c).run tP u=.ok (.enter f c) u)(H:∀(x:Int) (A:wD),x∈xs->cF tP f #[iN qi x] A λe F=>e=rT (.bool (p x))/\bX A.heap.size A F):
 cF tP 165 #[sL J n E,.func (.func f) #[] #[]] w λe F=>e=rT (iN qi (firstAt p xs 0))/\bX w.heap.size w F:=by
 subst hn;have K:=lH I;clear I;go_enter func165,ntmps165
 go_wp2_with fail
 go_loopw [8] (λi wr=>∃k:Nat,k<=xs.length/\i=iN qi (k:Int)/\firstAt p xs 0=firstAt p (xs.drop k) k/\bX w.heap.size w wr) (λi _=>xs.length-(intOf i).toNat)
 case atStart=>exact⟨0,Aih _,rfl,rfl,bR _ _⟩
 case round=>
  obtain⟨k,N,rfl,r,q⟩:=hrel;have g:=lH r;clear r;by_cases hlt:k<xs.length
  ·have hx:xs[k]? =some xs[k]:=lG hlt;have d:xs[k]∈xs:=Ah7 hlt;obtain⟨b,o,rfl,M⟩:=(K.out.below q (nR _)) k _ hx;generalize xs[k]=x at*;have G:=lH hx;clear hx
   cases t:p x with
   |true=>
    go_wp2_with fail
    refine(H x _ d).mono ?_;rintro e A ⟨rfl,l⟩
    go_wp2_with fail
    go_ret;exact⟨by rw[g.out,yg G.out t];rfl,q.trans (l.mono q.size)⟩
   |false=>
    have D:=lH t
    go_wp2_with fail
    refine(H x _ d).mono ?_;rintro e A ⟨rfl,l⟩
    go_wp2_with fail
    go_roundw
    case rel=>exact⟨k+1,zP,by go_num,by rw[g.out,yh G.out D.out],q.trans (l.mono q.size)⟩
    case measure=>simp[intOf];omega
  have hke:xs.length<=k:=zP
  go_wp2;go_ret;exact⟨by rw[g.out,Bd hke];rfl,q⟩
def YU(f:FuncId)(p:Int->Bool)(q:Option Addr)(xs:List Int)(n d:Nat)(w:wD)(hn:n=xs.length)(t:aF w q xs)(D:xs.length<=1000000)(l:∀(c:Array vL) (u:wD),(callFunc f c).run tP u=.ok (.enter f c) u)(E:∀(x:Int) (g:wD),x∈xs->cF tP f #[iN qi x] g λe r=>e=rT (.bool (p x))/\bX g.heap.size g r):
 cF tP 133 #[sL q n d,.func (.func f) #[] #[]] w λe r=>e=rT (.bool (xs.any p))/\bX w.heap.size w r:=by
 subst hn;have A:=lH t;clear t;go_enter func133,ntmps133
 go_wp2_with (go_at_call 165;refine(YT f p q xs _ d _ rfl A.out D l E).mono ?_;rintro e g ⟨rfl,i⟩)
 go_ret;exact⟨by rw[<-Bc xs 0];rfl,i⟩
def YV(n:Int)(w:wD):cF tP 134 #[iN qi n] w λe c=>e=rT (.bool (!btw n 0 200))/\bX w.heap.size w c:=by
 go_enter func134,ntmps134
 go_wp2_with (go_at_call 109;refine(c109 _ _).mono ?_;rintro e c ⟨rfl,rfl⟩)
 go_ret;exact⟨rfl,bR _ _⟩
def eP(xs:List Int):Bool:=xs.all λx=>btw x 0 200
def c80(xs:List Int)(f:Option Addr)(n c:Nat)(w:wD)(hn:n=xs.length)(g:aF w f xs)(l:xs.length<=1000000):
 cF tP 80 #[sL f n c] w λe p=>e=rT (.bool (eP xs))/\bX w.heap.size w p:=by
 have H:=lH (YU 134 (λx=> !btw x 0 200) f xs n c w hn g l (cfb func134 (by rfl) (by rfl)) (λx i _=>YV x i));clear g hn;go_enter func80,ntmps80
 go_wp2_with (go_at_call 133;refine H.out.mono ?_;rintro e i ⟨rfl,d⟩)
 go_ret;exact⟨by simp[eP,List.any_eq_not_all_not],d⟩
def YW{b:Nat}{x y:Int}(c:u.cell? ⟨b,0,none⟩=some (iN qi x))(d:u.cell? ⟨b,1,none⟩=some (iN qi y)):aF u (some ⟨b,0,none⟩) [x,y]
 |0,_,h=>by cases h;exact⟨b,0,rfl,c⟩
 |1,_,h=>by cases h;exact⟨b,0,rfl,d⟩
def YX{b:Nat}{x y z:Int}(c:u.cell? ⟨b,0,none⟩=some (iN qi x))(d:u.cell? ⟨b,1,none⟩=some (iN qi y))(e:u.cell? ⟨b,2,none⟩=some (iN qi z)):aF u (some ⟨b,0,none⟩) [x,y,z]
 |0,_,h=>by cases h;exact⟨b,0,rfl,c⟩
 |1,_,h=>by cases h;exact⟨b,0,rfl,d⟩
 |2,_,h=>by cases h;exact⟨b,0,rfl,e⟩
def rO{ops:Array Ajd}{l:List Ajd}{o:Ajd}{a:Act}{Q:Exit->Act->wD->Prop}(F:o.guard=none)(s x:Operand)(t e:TypeId)(P:o.op=.call {callee:=.builtin .append,args:=#[s,x],argTypes:=#[t,t]})(z:vL)(d f:Nat)(S:tP.underlying t=some (.slice e))(N:(tP.info? e).map (λi=>(i.zero,i.size,i.bytes))=some (some z,d,f))(L:z.cells.size=d)(K:0<d)(base n:Nat)(xs:List vL)(v:vL)(R:a.eval s=v)(r:w.ownsRow base e d v n xs)(b c:Nat)(g:List vL)(hx:a.eval x=sL (some ⟨b,0,none⟩) 1 c)(X:g.length=d)(q:∀j u,g[j]? =some u->w.cell? ⟨b,j,none⟩=some u)(h1:∀u∈g,u.oneCell'=true)(hn:n<=1000000)(M:f<=100)(p:base<=w.heap.size)(h:∀A D,D.ownsRow base e d A (n+1) (xs++g)->w.grownBy D v.ownBlock->(A=sL none 0 0->False)->Ajc tP ops Q l (a.put o.dst A) D):Ajc tP ops Q (o::l) a w:=by obtain⟨i,G,H,I,J⟩:=info_parts N;have E:(n+1)*f<=140737488355328:=Nat.le_trans (Nat.mul_le_mul_left _ M) zP;refine wpList_append_own w F s x t P base e i z d f S G H I J L K v n xs R r ⟨b,0,none⟩ 1 c g hx zP (λj u O=>by have:=q j u O;simp only[Addr.add];split<;>simp_all) h1 (by unfold maxLen;omega) E p λA D T U W=>h A D T U λe=>by have:=(W.1 e).2;omega
def info3:(tP.info? 3).map (λi=>(i.zero,i.size,i.bytes))=some (some (iN qi 0),1,8):=xD
def ints(l:List Int):List vL:=l.map λn=>iN qi n
def below_grown{f u':wD}{o:Obj}{e:TypeId}{z:Nat}{xs:List vL}(g:bX f.heap.size f u)(d:u.ownsRow base e z v n xs)(c:f.heap.size<=base)(i:(u.alloc o).grownBy u' v.ownBlock):bX f.heap.size f u':=
 (g.alloc g.size o).grown i (by have:=g.size;simp;omega) λj l=>Nat.le_trans c (d.lt j l).1
def yw{xs:List Int}(h:w.ownsRow base 3 1 v n (ints xs))(hn:n=xs.length):∃c pc,v=sL c n pc/\aF w c xs/\aJ w c/\∀x,c=some x->base<=x.block:=by
 rcases h.2 with⟨rfl,l⟩|⟨g,d,f,rfl,p,h2,q,h4,h5,h6⟩
 ·exact⟨none,0,by rw[l],λi x hx=>by have:=(lS.1 hx).1;omega,λx hx=>(by cases hx),λx hx=>(by cases hx)⟩
 refine⟨some ⟨g,0,none⟩,d,rfl,λi x hx=>⟨g,0,rfl,?_⟩,λx hx=>by cases hx;exact⟨_,_,_,h2⟩,λx hx=>by cases hx;exact p⟩;have r:=(lS.1 hx).1;simp only[Aeq,h2];have e:f.toList[i]? =(ints xs)[i]? :=by rw[<-h6,Aim zP]
 simp only[Nat.zero_add,Option.isSome_none,kF,if_false];rw[<-Array.getElem?_toList,e];simp[ints,hx]
def c97(V:BkV)(B:Bk)(w:wD)(hn:B.P.length<1000):cF tP 97 #[V.val B] w λe r=>∃v,e=rT v/\r.ownsRow w.heap.size 3 1 v B.P.length (ints ((Aes B.P.length).map λ(i:Nat)=>(i:Int)))/\bX w.heap.size w r:=by
 obtain⟨za,la,I,pa,zc,lc,cc,pc⟩:=V;go_enter func97,ntmps97
 go_wp2_with fail
 obtain⟨R,q⟩:∃R:Nat->List vL,R=λk=>ints ((Aes k).map λ(i:Nat)=>(i:Int)):=⟨_,rfl⟩;have t:Hid (R 0=[]):=lH (by rw[q];rfl);have A:Hid (∀k,R (k+1)=R k++[iN qi (k:Int)]):=lH λk=>by rw[q];simp[ints,Aeg]
 have l:Hid (R B.P.length=ints ((Aes B.P.length).map λ(i:Nat)=>(i:Int))):=lH (by rw[q]);clear q;obtain⟨n,g⟩:∃n,n=B.P.length:=⟨_,rfl⟩;rw[<-g]at l hn;have f:=lH g;clear g
 go_loopw [3,9] (λv i wr=>∃k:Nat,k<=n/\i=iN qi (k:Int)/\Hid (wr.ownsRow w.heap.size 3 1 v k (R k))/\Hid (bX w.heap.size w wr)) (λ_ i _=>n-(intOf i).toNat)
 case atStart=>exact⟨0,Aih _,rfl,lH (by rw[t.out];exact Aiz _ _ _ _),lH ((bR _ _).alloc (nR _) _)⟩
 case round=>
  obtain⟨k,J,rfl,c,Hb⟩:=hrel;by_cases hlt:k<n
  ·have p:(k:Int)<(B.P.length:Int):=by rw[<-f.out];omega
   go_wp2_with (at_builtin;refine rO rfl _ _ 28 3 rfl (iN qi 0) 1 8 underlying28 info3 rfl zE w.heap.size k (R k) _ rfl (c.out.alloc _) wr.heap.size 1 [iN qi (k:Int)] rfl rfl ?c1 ?c2 ?c3 zE ?c4 ?_)
   case c1=>intro j u D;match j,D with|0,D=>cases D;go_simp
   case c2=>simp[Value.oneCell']
   case c3=>omega
   case c4=>have:=Hb.out.size;simp;omega
   intro H r d E _;have F:=lH (below_grown Hb.out c.out (nR _) E);have G:Hid (r.ownsRow w.heap.size 3 1 H (k+1) (R (k+1))):=lH (by rw[A.out];exact d);clear d E;go_wp2;go_roundw
   case rel=>exact⟨k+1,zP,by go_num,G,F⟩
   case measure=>simp[intOf];omega
  have hke:k=n:=zP
  have p:¬(k:Int)<(B.P.length:Int):=by rw[<-f.out];omega
  go_wp2;go_ret;have h2:=c.out;rw[hke,l.out,f.out]at h2;exact⟨_,rfl,h2,Hb.out⟩
def c79(t:Bool)(w:wD):cF tP 79 #[.bool t] w λe c=>e=rT (iN qi (if t then 0 else 1))/\w=c:=by cases t<;>(go_enter func79,ntmps79;go_wp2;go_ret;exact⟨rfl,rfl⟩)
def uz(l:List Int):Nat->Nat->Int
 |0,_=>0
 |n+1,i=>if btw (l.getD i 0) 0 200=false then 1 else if 0<i/\l.getD i 0<=l.getD (i-1) 0 then 7 else uz l n (i+1)
def aW(l:List Int):Int:=if btw (l.length:Int) 1 4=false then 2 else uz l l.length 0
def c87(l:List Int)(J:Option Addr)(tc:Nat)(w:wD)(H:aF w J l):cF tP 87 #[sL J l.length tc] w λe Q=>e=rT (iN qi (aW l))/\bX w.heap.size w Q:=by
 cases hc:btw (l.length:Int) 1 4 with
 |false=>
  have q:Hid (aW l=2):=lH (by unfold aW;rw[if_pos hc]);have Hc:=lH hc;go_enter func87,ntmps87
  go_wp2_with (go_at_call 114;refine(dK _ _ _ _).mono ?_;rw[Hc.out];rintro e u ⟨rfl,rfl⟩)
  go_ret;exact⟨by rw[q.out];rfl,bR _ _⟩
 |true=>
  have q:Hid (aW l=uz l l.length 0):=lH (by unfold aW;rw[if_neg (by rw[hc];decide)]);have Hc:=lH hc;have R:=lH H;have W:=bJ hc;have K:Hid (∀i,i<l.length->∃b o,J=some ⟨b,o,none⟩/\w.cell? ⟨b,o+i,none⟩=some (iN qi (l.getD i 0))):=lH λi M=>by obtain⟨b,o,A,D⟩:=H i _ (lG M);exact⟨b,o,A,by rw[D];simp[List.getD,lG M]⟩
  clear hc H;generalize G:l.length=n at*;clear G;go_enter func87,ntmps87
  go_wp2_with (go_at_call 114;refine(dK _ _ _ _).mono ?_;rw[Hc.out];rintro e u ⟨rfl,rfl⟩)
  go_loopw [11] (λi wr=>∃k:Nat,k<=n/\i=iN qi (k:Int)/\Hid (aW l=uz l (n-k) k)/\wr=w) (λi _=>n-(intOf i).toNat)
  case atStart=>exact⟨0,Aih _,rfl,q,rfl⟩
  case round=>
   obtain⟨k,U,rfl,t,rfl⟩:=hrel;by_cases hlt:k<n
   ·obtain⟨b,o,rfl,T⟩:=K.out k hlt;have r:Hid (aW l=if btw (l.getD k 0) 0 200=false then 1 else if 0<k/\l.getD k 0<=l.getD (k-1) 0 then 7 else uz l (n-(k+1)) (k+1)):=lH (by rw[t.out,show n-k=(n-(k+1))+1 by omega];rfl);clear t;have N:Hid (∀j,0<k->(j:Int)=(k:Int)-1->∃y,y=l.getD (k-1) 0/\wr.cell? ⟨b,o+(k-1),none⟩=some (iN qi y)):=lH λj E _=>by
     obtain⟨S,X,A,D⟩:=K.out (k-1) zP
     cases A
     exact⟨_,rfl,D⟩
    generalize l.getD k 0=x at*
    cases hx:btw x 0 200 with
    |false=>
     have c:Hid (aW l=1):=lH (by rw[r.out,if_pos hx]);have g:=lH hx
     go_wp2_with (go_at_call 109;refine(c109 _ _).mono ?_;rw[g.out];rintro e u ⟨rfl,rfl⟩)
     go_ret;exact⟨by rw[c.out];rfl,bR _ _⟩
    |true=>
     have g:=lH hx;by_cases E:0<k
     ·obtain⟨f,rfl⟩:∃f,k=f+1:=⟨k-1,zP⟩;obtain⟨y,I,O⟩:=N.out f E zP;simp only[Aiu]at O I;have L:=lH I;have F:((f+1 :Nat):Int)>0:=zP
      have P:IntKind.wrap qi (((f+1 :Nat):Int)-1)=((f:Nat):Int):=(Ai5 _ zP).trans zP;have d:=lH (r.out.trans (if_neg (by rw[hx];decide)));simp only[Aiu]at d;clear I hx;by_cases p:x<=y
      ·have c:Hid (aW l=7):=lH (d.out.trans (if_pos ⟨E,by rw[<-L.out];exact p⟩))
       go_wp2_with (go_at_call 109;refine(c109 _ _).mono ?_;rw[g.out];rintro e u ⟨rfl,rfl⟩)
       go_ret;exact⟨by rw[c.out];rfl,bR _ _⟩
      have c:=lH (d.out.trans (if_neg (by rw[<-L.out];exact λh=>p h.2)))
      go_wp2_with (go_at_call 109;refine(c109 _ _).mono ?_;rw[g.out];rintro e u ⟨rfl,rfl⟩)
      go_roundw
      case rel=>exact⟨f+1+1,zP,by go_num,c,by first|rfl|trivial⟩
      case measure=>simp[intOf];omega
     have F:¬((k:Int)>0):=zP
     have c:=lH ((r.out.trans (if_neg (by rw[hx];decide))).trans (if_neg zP));clear hx
     go_wp2_with (go_at_call 109;refine(c109 _ _).mono ?_;rw[g.out];rintro e u ⟨rfl,rfl⟩)
     go_roundw
     case rel=>exact⟨k+1,zP,by go_num,c,by first|rfl|trivial⟩
     case measure=>simp[intOf];omega
   obtain rfl:k=n:=zP
   have c:Hid (aW l=0):=lH (by rw[t.out,Nat.sub_self];rfl);go_wp2;go_ret;exact⟨by rw[c.out];rfl,bR _ _⟩
def info9:(tP.info? 9).map (λi=>(i.zero,i.size,i.bytes))=some (some (.string ⟨#[]⟩),1,16):=xD
def vZ(l:List Ln):List vL:=l.map λx=>.string x.name
def YZ{l:List Ln}(h:w.ownsRow base 9 1 v n (vZ l))(hn:n=l.length):∃p pc,v=sL p n pc/\SlS w p (l.map (·.name)):=by
 rcases h.2 with⟨rfl,q⟩|⟨g,c,d,rfl,t,h2,A,h4,h5,h6⟩
 ·exact⟨none,0,by rw[q],λi x hx=>by have:=(lS.1 hx).1;simp at this;omega⟩
 refine⟨some ⟨g,0,none⟩,c,rfl,λi x hx=>⟨g,0,rfl,?_⟩⟩;have r:=(lS.1 hx).1;simp at r;simp only[Aeq,h2];have e:d.toList[i]? =(vZ l)[i]? :=by rw[<-h6,Aim zP]
 simp only[Nat.zero_add,Option.isSome_none,kF,if_false];rw[<-Array.getElem?_toList,e];simp only[Aiy]at hx;simp only[vZ,Aiy]
 cases f:l[i]? with
 |none=>rw[f]at hx;cases hx
 |some z=>rw[f]at hx;cases hx;rfl
theorem first_any(t:ByteArray):∀(l:List Ln) (k:Nat),(0<=firstAt (λx=>t.toList==x.toList) (l.map (·.name)) k)↔l.any (kG t)=true
 |[],k=>by simp[firstAt]
 |x::l,k=>by
  have c:=first_any t l (k+1);simp only[Ai6,firstAt,List.any_cons,kG,Afd];by_cases h:(t.toList==x.name.toList)=true
  ·have h2:(x.name.toList==t.toList)=true:=by rw[beq_iff_eq]at h⊢; exact h.symm
   simp[h,h2]
  have h2:¬(x.name.toList==t.toList)=true:=λe=>h (by rw[beq_iff_eq]at e⊢; exact e.symm);simpa[h,h2]using c
def Y0{e:TypeId}{s:Nat}{xs:List vL}(h:w.ownsRow base e s v n xs)(p:w.drew.grownBy u none):u.ownsRow base e s v n xs:=by refine⟨h.1,h.2.imp id λ⟨g,c,d,f,i,h2,l⟩=>⟨g,c,d,f,i,?_,l⟩⟩;rw[p.block g (aS.1 h2).1 yW];exact h2
def c116(V:BkV)(B:Bk)(w:wD)(J:aI w V B)(hn:B.L.length<=1000)(N:∀x∈B.L,x.name.size<=1000000):cF tP 116 #[sL V.la B.L.length V.lc] w λe p=>e=rT (iN qi (jl B))/\bX w.heap.size w p:=by
 obtain⟨za,la,ca,pa,zc,lc,cc,pc⟩:=V;have Hat:=lH J.slN;have ab:=lH N;clear J N
 cases r:btw (B.L.length:Int) 1 3 with
 |false=>
  go_enter func116,ntmps116
  go_wp2_with (go_at_call 43;refine(b43 _ _ _ _).mono ?_;rintro e p ⟨rfl,rfl⟩)
  go_ret;exact⟨by simp[jl,r],bR _ _⟩
 |true=>
  have Ha:Hid (jl B=jI [] B.L):=lH (by simp[jl,r]);obtain⟨R,hR⟩:∃R:Nat->List vL,R=λk=>vZ (B.L.take k):=⟨_,rfl⟩;have aa:Hid (R 0=[]):=lH (by rw[hR];rfl);have HR:Hid (R=λk=>vZ (B.L.take k)):=lH hR;clear hR;go_enter func116,ntmps116
  go_wp2_with (go_at_call 43;refine(b43 _ _ _ _).mono ?_;rintro e p ⟨rfl,rfl⟩)
  go_loopw [3,4] (λv i wr=>∃k:Nat,k<=B.L.length/\i=iN qi (k:Int)/\Hid (wr.ownsRow w.heap.size 9 1 v k (R k))/\Hid (jI [] B.L=jI (B.L.take k) (B.L.drop k))/\Hid (bX w.heap.size w wr)) (λ_ i _=>B.L.length-(intOf i).toNat)
  case atStart=>exact⟨0,Aih _,rfl,lH (by rw[aa.out];exact Aiz _ _ _ _),lH rfl,lH (bR _ _)⟩
  case round=>
   obtain⟨k,hk,rfl,g,Hz,Hb⟩:=hrel;by_cases hlt:k<B.L.length
   ·have hx:B.L[k]? =some B.L[k]:=lG hlt;obtain⟨b,o,hza,q0,q1,q2,q3⟩:=Hat.out k _ hx;subst hza;have y0:=fM Hb.out q0 (nR _);have M:(B.L.take k).length=k:=by simp;omega
    have c:=g.out;rw[HR.out]at c;obtain⟨qa,qc,rfl,D⟩:=YZ c M.symm;have I:=lH D;clear c D;have hat2:=MG hx;have hbw:=wBk wr _ y0;simp only at hbw;have O:=ab.out _ (Aiq hx);have G:Hid (R (k+1)=R k++[.string B.L[k].name]):=lH (by rw[HR.out];simp only[vZ,List.take_add_one,hx,Option.toList_some,List.map_append,Ai6,List.map_nil]);generalize B.L[k]=z at*;obtain⟨zn,zd,P,Q⟩:=z;simp only at q0 q1 q2 q3 y0 hat2 O G;have Z:=lH (Ajb q1 (Ajb q2 q3));clear q0 q1 q2 q3;have Hat2:=lH hat2;clear hx hat2;have f:=lH (X9 zn O)
    cases h2:iG zn with
    |false=>
     go_wp2_with (go_at_call 153;refine(f.out _).mono ?_;rw[h2];rintro e X ⟨rfl,rfl⟩)
     go_ret;exact⟨by rw[Ha.out,Hz.out,Hat2.out,if_pos h2];rfl,Hb.out⟩
    |true=>
     have q:Hid (cF tP 154 #[sL qa k qc,.string zn] wr λe p=>e=rT (iN qi (firstAt (λx=>zn.toList==x.toList) ((B.L.take k).map (·.name)) 0))/\wr=p):=lH (by have:=c154 zn qa ((B.L.take k).map (·.name)) qc wr I.out xL;rwa [show ((B.L.take k).map (·.name)).length=k by simp;omega]at this)
     have l:=first_any zn (B.L.take k) 0;generalize firstAt (λx=>zn.toList==x.toList) ((B.L.take k).map (·.name)) 0=fa at*
     cases E:(B.L.take k).any (kG zn)with
     |true=>
      have L:fa≥0:=l.2 E;clear l
      go_wp2_with (first|(go_at_call 153;refine(f.out _).mono ?_;rw[h2];rintro e X ⟨rfl,rfl⟩)|(go_at_call 154;refine q.out.mono ?_;rintro e X ⟨rfl,rfl⟩))
      go_ret;exact⟨by rw[Ha.out,Hz.out,Hat2.out,if_neg (by rw[h2];decide),if_pos E];rfl,Hb.out⟩
     |false=>
      have L:¬fa≥0:=λh=>by rw[l.1 h]at E;cases E
      clear l
      go_wp2_with (first|(go_at_call 153;refine(f.out _).mono ?_;rw[h2];rintro e X ⟨rfl,rfl⟩)|(go_at_call 154;refine q.out.mono ?_;rintro e X ⟨rfl,rfl⟩)|(at_builtin;refine rO rfl _ _ 197 9 rfl (.string ⟨#[]⟩) 1 16 underlying197 info9 rfl zE w.heap.size k (R k) _ rfl (g.out.alloc _) wr.heap.size 1 [.string zn] rfl rfl ?c1 ?c2 ?c3 zE ?c4 ?_))
      case c1=>intro j u T;match j,T with|0,T=>cases T;go_simp
      case c2=>simp[Value.oneCell']
      case c3=>omega
      case c4=>have:=Hb.out.size;simp;omega
      intro v' p c hg _;have S:=lH (below_grown Hb.out g.out (nR _) hg);have HO:Hid (p.ownsRow w.heap.size 9 1 v' (k+1) (R (k+1))):=lH (by rw[G.out];exact c);clear c hg;have HY:Hid (Cells p.drew [(⟨b,o+k*4+1,none⟩,iN qi zd),(⟨b,o+k*4+2,none⟩,iN qi P),(⟨b,o+k*4+3,none⟩,iN qi Q)]):=lH ⟨fM S.out.drew Z.out.1 (nR _),fM S.out.drew Z.out.2.1 (nR _),fM S.out.drew Z.out.2.2 (nR _),trivial⟩;have F:Hid (bX w.heap.size w p.drew):=lH S.out.drew;clear L;obtain⟨U,h5⟩:∃t,t=narrowOk P Q 0 (numbers zd-1):=⟨_,rfl⟩
      cases h4:btw zd 1 4
      all_goals
       go_upto_region 12 with fail
       rename_i K
      refine uw (z:=100) none 23 0 [38,39,40,41,42,43,44,45,46,47,48,49,50,51,52,53,54,55,56,57,58,59,60] [] (λ_=>default) (λ_=>[sL (some ⟨b,o,none⟩) B.L.length lc,iN qi (k:Int),pN (some ⟨b,o+k*4,none⟩),pN (some ⟨b,o+k*4+1,none⟩),iN qi zd,.bool false,.bool true,.bool true,ud,ud,ud,ud,ud,ud,ud,ud,ud,ud,ud,ud,ud,ud,.bool true]) xD rfl xD (λ_=>rfl) yW λbs A hA=>?_;rotate_left;have ac:=bJ h4;have ad:=MK ac;refine uw (z:=100) none 23 0 [38,39,40,41,42,43,44,45,46,47,48,49,50,51,52,53,54,55,56,57,58,59,60] [] (λ_=>default) (λ_=>[sL (some ⟨b,o,none⟩) B.L.length lc,iN qi (k:Int),pN (some ⟨b,o+k*4,none⟩),pN (some ⟨b,o+k*4+1,none⟩),iN qi zd,.bool true,.bool false,.bool false,sL (some ⟨b,o,none⟩) B.L.length lc,iN qi (k:Int),pN (some ⟨b,o+k*4,none⟩),pN (some ⟨b,o+k*4+2,none⟩),.agg #[iN qi P,iN qi Q],sL (some ⟨b,o,none⟩) B.L.length lc,iN qi (k:Int),pN (some ⟨b,o+k*4,none⟩),pN (some ⟨b,o+k*4+1,none⟩),iN qi zd,iN qi (numbers zd),iN qi (numbers zd-1),.bool U,.bool (!U),.bool (!U)]) xD rfl xD (λ_=>rfl) yW λbs A hA=>?_
      all_goals
       simp only[jk,Act.put,Ail,Ais,Ait]at hA;subst hA;refine⟨?_,λu ⟨d,_⟩ hB _=>?_⟩
       ·iterate 5 refine dL (λu d=>by obtain⟨d0,d1,d2,-⟩:=HY.out.grown d.1 yW;go_simp) ?_
        refine ql 43 #[iN qi zd,iN qi 1,iN qi 4] (λu d=>by go_simp) (λu d=>(b43 zd 1 4 u).mono λe W ⟨r,h2⟩=>⟨by rw[r,h4],h2▸eF _ _,trivial⟩) ?_
        iterate 2 refine dL (λu d=>by obtain⟨d0,d1,d2,-⟩:=HY.out.grown d.1 yW;go_simp) ?_
        first
        |iterate 14 refine Fv rfl ?_
        |iterate 10 refine oU (λu d=>⟨rfl,by obtain⟨d0,d1,d2,-⟩:=HY.out.grown d.1 yW;go_simp⟩) ?_
         refine uy 61 #[iN qi zd] rfl (λu d=>by go_simp) (λu d=>(by have:=c61 zd.toNat zP u;rwa [show ((zd.toNat:Nat):Int)=zd by omega]at this:cF tP 61 #[iN qi zd] u λe W=>e=rT (iN qi (numbers zd))/\u=W).mono λe W ⟨r,h2⟩=>⟨r,h2▸eF _ _,trivial⟩) ?_;refine oU (λu d=>⟨rfl,by go_simp;exact Ai5 _ zP⟩) ?_;refine uy 155 #[.agg #[iN qi P,iN qi Q],iN qi 0,iN qi (numbers zd-1)] rfl (λu d=>by go_simp) (λu d=>(ML P Q 0 (numbers zd-1) u zP zP).mono λe W ⟨r,h2⟩=>⟨by rw[r,h5],MI h2,trivial⟩) ?_;refine oU (λu d=>⟨rfl,by go_simp⟩) ?_
        exact dL (λu d=>by go_simp) rM
       refine qj (hr:=by kernel_rfl) ?_;have H:Hid (bX w.heap.size w u):=lH (F.out.trans ⟨d.os,d.tape,d.output,d.size,λj T=>d.block j (by have:=F.out.size;omega) yW⟩);have Y:Hid (u.ownsRow w.heap.size 9 1 v' (k+1) (R (k+1))):=lH (Y0 HO.out d);simp only[Exit.then]
      cases U;rotate_left
      ·go_wp2;go_roundw
       case rel=>exact⟨k+1,zP,by go_num,Y,lH (by rw[Hz.out,Hat2.out,if_neg (by rw[h2];decide),if_neg (by rw[E];decide),if_neg (by rw[h4,<-h5];decide)]),H⟩
       case measure=>simp[intOf];omega
      all_goals
       go_wp2;go_ret;exact⟨by rw[Ha.out,Hz.out,Hat2.out,if_neg (by rw[h2];decide),if_neg (by rw[E];decide),if_pos (by rw[h4];first|rfl|(rw[<-h5];rfl))];rfl,H.out⟩
   have hke:B.L.length<=k:=zP
   go_wp2;go_ret;exact⟨by rw[Ha.out,Hz.out,MH hke];rfl,Hb.out⟩
end Go.Proofs.Y
