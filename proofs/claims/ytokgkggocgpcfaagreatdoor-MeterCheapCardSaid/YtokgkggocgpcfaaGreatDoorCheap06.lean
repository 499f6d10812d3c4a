/- Part of a proof; no conditions. -/
import Derived.Test.YtokgkggocgpcfaaGreatDoorCheap05
import Derived.WalkKit
import Derived.Deep.RegionWith
import Derived.Handy
import Derived.Carry
import Derived.Laws.IdiomStrings
import Derived.Deep.QuietTactic
import Derived.BigQuiet
import Derived.Deep.DeepCutAuto
import Derived.OrdersHeld
import Derived.Laws.AppendOwn
open List renaming getElem?_eq_getElem->lG,drop_eq_getElem_cons->Ahw,getElem?_cons_zero->Ad5,drop_of_length_le->Ahy,mem_cons_of_mem->Rf,getElem_of_mem->Ah2,mem_cons_self->Aah,mem_singleton->Aag,drop_length->Ah6,getElem_mem->Ah7,all_eq_true->Ah8,length_cons->Ah9,map_append->Aib,nodup_cons->Aic,mem_append->Aa7,mem_range->Aid,mem_cons->Ab3,range->Aes,getElem?_eq_some_iff->lS,getD_eq_getElem?_getD->lD
open Classical renaming byContradiction->Ad3
open Array renaming getElem?_eq_some_iff->aS,setIfInBounds_comm->Ahx,getElem?_eq_none->Ahz,getElem_of_mem->Ah1,all_eq_true->Ah3,any_eq_true->Ah4,getElem_mem->Ah5,replicate->Afc,getElem?_eq_getElem->aG
open Go.World renaming block_lt_of_cell?->wBk,cell?_of_block->Ah0,cell?->Aeq
open Bool renaming false_eq_true->kF,not_eq_true'->Aec,and_eq_true->Aal,or_eq_true->Afd
open Option renaming getD_some->Agx,map_some->Aaw
open Nat renaming le_refl->nR,le_of_not_lt->Aia,zero_add->Aie,zero_le->Aih,lt_of_lt_of_le->nL
open Go.Ending renaming returned->rT,returned->Ag1
open Go.Region renaming wanted->Ag2,binds->Aif,ready->Aig
open Go.Exit renaming «then»->Aii
open Go.Value renaming int->iN,slice->sL,pointer->pN,int->Aij
open Go renaming Addr->aD,Calls->cF,Value->vL,World->wD,undef->ud
open Go.RowKit renaming Below->bX
open Go.IntKind renaming i64->qi
open Go.Obj renaming cells->cL
open Go.Lib renaming hid->lH
open Go.RowKit.Below renaming refl->bR
open Go.Proofs.Tryz renaming prog->tP
open Option.some renaming injEq->oI
open Go.Proofs.Tryz
set_option maxRecDepth 100000
set_option maxHeartbeats 4000000
set_option linter.all false
namespace Go.Proofs.Y
open Go.RowKit Go.Tp Go.Meter
variable {w w':wD} {k n:Nat} {s:ByteArray}
abbrev zval(z:Zn):vL:=.agg #[iN qi z.far,iN qi z.day,iN qi z.night,iN qi z.least]
def LU(B:Bk)(z:Zn){f t:Int}(h:t<=f):B.secs z f t=0:=by
 unfold Bk.secs bg;have:(t-1+1-f).toNat=0:=zP
 rw[this];rfl
def XP(B:Bk)(z:Zn){f s:Int}(h:f<=s):B.secs z f (s+1)=B.secs z f s+B.sec z s:=by
 unfold Bk.secs bg;have e:(s+1-1+1-f).toNat=(s-1+1-f).toNat+1:=zP
 rw[e,List.range_succ,Aib,Aib,List.sum_append];simp
 congr 1
 omega
def cell_of{b o:Nat}{c:Array vL}{t:TypeId}{z:Nat×Nat}{v:vL}(h:w.heap[b]? =some (cL c t z))(d:c[o]? =some v):w.cell? ⟨b,o,none⟩=some v:=by simp only[Aeq,h];exact d
def EX(w:wD)(x y:Obj):((w.alloc x).alloc y).heap[w.heap.size]? =some x:=by rw[Below.heap_alloc _ _ _ yW];show (w.heap.push x)[w.heap.size]? =some x;simp
def EY(w:wD)(x y:Obj):((w.alloc x).alloc y).heap[w.heap.size+1]? =some y:=by
 show ((w.heap.push x).push y)[w.heap.size+1]? =some y
 have:w.heap.size+1=(w.heap.push x).size:=yW
 rw[this,Array.getElem?_push,if_pos rfl]
def c152(V:BkV)(B:Bk)(z:Zn)(f t:Int)(X:1<=B.day/\B.day<=1000)(N: -1000<=B.U/\B.U<=1000)(hz:0<=z.day/\z.day<=9/\0<=z.night/\z.night<=9)(Y:0<=f/\f<=1000)(Z:t<=1000)(w:wD):
 cF tP 152 #[V.val B,zval z,iN qi f,iN qi t] w λe w'=>e=rT (iN qi (B.secs z f t))/\bX w.heap.size w w':=by
 obtain⟨za,la,T,pa,zc,lc,cc,pc⟩:=V;have J:=lH (λs h=>XP B z (f:=f) (s:=s) h);have F:=lH (LU B z (f:=f) (t:=f) (Int.le_refl _));have L:=lH (λh=>LU B z (f:=f) (t:=t) h);have c:∀s,0<=B.sec z s/\B.sec z s<=9:=λs=>by unfold Bk.sec;split<;>omega
 have g:=lH c;clear c;go_enter func152,ntmps152;go_wp2
 go_loopw [9,10] (λp i wr=>bX w.heap.size w wr/\w.heap.size+2<=wr.heap.size/\wr.cell? ⟨w.heap.size,0,none⟩=some (iN qi B.day)/\wr.cell? ⟨w.heap.size,1,none⟩=some (iN qi B.D)/\wr.cell? ⟨w.heap.size,2,none⟩=some (iN qi B.U)/\wr.cell? ⟨w.heap.size+1,1,none⟩=some (iN qi z.day)/\wr.cell? ⟨w.heap.size+1,2,none⟩=some (iN qi z.night)/\
  ∃s x:Int,f<=s/\(s=f\/s<=t)/\i=iN qi s/\p=iN qi x/\x=B.secs z f s/\0<=x/\x<=9*(s-f)) (λ_ i _=>(t-intOf i).toNat)
 case atStart=>exact⟨((bR _ _).alloc (nR _) _).alloc yW _,yW,cell_of (EX w _ _) rfl,cell_of (EX w _ _) rfl,cell_of (EX w _ _) rfl,cell_of (EY w _ _) rfl,cell_of (EY w _ _) rfl,f,0,zP,.inl rfl,rfl,rfl,F.out.symm,zP,zP⟩
 case round=>
  obtain⟨y,d,c0,c1,R,z1,z2,s,x,M,h2,rfl,rfl,hx,U,h4⟩:=hrel;have r:=lH hx;clear hx;by_cases hlt:s<t
  ·have W:=g.out s
   have q:=J.out s M;have m:B.sec z s=if B.D<=s % B.day/\s % B.day<=B.U-1 then z.day else z.night:=rfl
   have D:=lH q;have C:=lH m;clear q m;have G:s.tmod B.day=s % B.day:=Int.tmod_eq_emod_of_nonneg zP;have O:B.day≠0:=zP
   have hw:IntKind.i64.wrap (B.U-1)=B.U-1:=IntWalk.i64_in _ zP;by_cases hc:B.D<=s % B.day/\s % B.day<=B.U-1
   ·have l:=hc.1
    have E:=hc.2;have Hc:=lH hc;clear hc;go_wp2
    go_region_with (first
     |(go_simp;go_at_call 114;(with_reducible refine(A8 _ _ _ _).mono ?_);rintro e H ⟨rfl,rfl⟩))
    all_goals
     simp only[Aii]
     go_at_K
     go_wp2;go_roundw
     case rel=>exact⟨y.drew,by simpa using d,by go_simp,by go_simp,by go_simp,by go_simp,by go_simp,s+1,x+z.day,zP,.inr zP,by go_num,by go_num,by rw[r.out,D.out,C.out,if_pos Hc.out],zP,zP⟩
     case measure=>simp[intOf];omega
   have Hc:=lH hc
   have hc0:=hc;clear hc;by_cases l:B.D<=s % B.day
   ·have E:¬s % B.day<=B.U-1:=λh=>hc0 ⟨l,h⟩
    clear hc0;go_wp2
    go_region_with (first
     |(go_simp;go_at_call 114;(with_reducible refine(A8 _ _ _ _).mono ?_);rintro e H ⟨rfl,rfl⟩))
    all_goals
     simp only[Aii]
     go_at_K
     go_wp2;go_roundw
     case rel=>exact⟨y.drew,by simpa using d,by go_simp,by go_simp,by go_simp,by go_simp,by go_simp,s+1,x+z.night,zP,.inr zP,by go_num,by go_num,by rw[r.out,D.out,C.out,if_neg Hc.out],zP,zP⟩
     case measure=>simp[intOf];omega
   clear hc0
   go_wp2
   go_region_with (first
    |(go_simp;go_at_call 114;(with_reducible refine(A8 _ _ _ _).mono ?_);rintro e H ⟨rfl,rfl⟩))
   all_goals
    simp only[Aii]
    go_at_K
    go_wp2;go_roundw
    case rel=>exact⟨y.drew,by simpa using d,by go_simp,by go_simp,by go_simp,by go_simp,by go_simp,s+1,x+z.night,zP,.inr zP,by go_num,by go_num,by rw[r.out,D.out,C.out,if_neg Hc.out],zP,zP⟩
    case measure=>simp[intOf];omega
  go_wp2
  go_ret;refine⟨?_,y⟩
  show Ag1 (Aij _ x)=_
  rw[r.out]
  rcases h2 with rfl|h2
  ·rw[F.out,L.out zP]
  have:s=t:=zP
  rw[this]
def c164(z:Zn)(far:Int)(c:Nat)(w:wD)(d:w.cell? ⟨c,0,none⟩=some (iN qi far)):
 cF tP 164 #[zval z,pN (some ⟨c,0,none⟩)] w λe w'=>e=rT (.bool (decide (far<=z.far)))/\bX w.heap.size w w':=by
 have hlt:=wBk w _ d;simp only at hlt;have f:c≠w.heap.size:=zP
 go_enter func164,ntmps164;go_wp2;go_ret;exact⟨rfl,(bR _ _).alloc (nR _) _⟩
def aI.below{V:BkV}{B:Bk}{m:Nat}(h:aI w V B)(c:bX m w w')(d:w.heap.size<=m):aI w' V B:=h.map λb o v _ e=>by have hlt:=wBk w _ e;rw[c.cell (p:=⟨b,o,none⟩) (nL hlt d)];exact e
def ni(far:Int):List Zn->Nat->Option Nat
 |[],_=>none
 |z::l,k=>if far<=z.far then some k else ni far l (k+1)
theorem EZ(far:Int):∀(l:List Zn) (k:Nat),ni far l k=(l.findIdx? λz=>decide (far<=z.far)).map (· +k)
 |[],_=>rfl
 |z::l,k=>by
  unfold ni
  rw[List.findIdx?_cons,EZ far l (k+1)];by_cases h:far<=z.far
  ·simp[h]
  simp only[h,if_false,decide_false,kF]
  cases List.findIdx? (λz=>decide (far<=z.far)) l with
  |none=>rfl
  |some x=>simp;omega
def x9(o:Option Nat):Int:=match o with|some i=>(i:Int)|none=> -1
def XQ(V:BkV)(B:Bk)(far:Int)(g:Nat)(hn:B.Z.length<1000)(w:wD)(l:aI w V B)(x:w.cell? ⟨g,0,none⟩=some (iN qi far)):
 cF tP 163 #[sL V.za B.Z.length V.zc,.func (.func 164) #[] #[pN (some ⟨g,0,none⟩)]] w λe w'=>e=rT (iN qi (x9 (B.zoneIx far)))/\bX w.heap.size w w':=by
 obtain⟨za,la,G,pa,zc,lc,cc,pc⟩:=V;have Hat:=lH l;clear l;have D:Hid (B.zoneIx far=ni far (B.Z.drop 0) 0):=lH (by rw[EZ];unfold Bk.zoneIx;simp);have q:=wBk w _ x;simp only at q;go_enter func163,ntmps163;go_wp2
 go_loopw [8] (λi wr=>bX w.heap.size w wr/\wr.cell? ⟨g,0,none⟩=some (iN qi far)/\∃k:Nat,k<=B.Z.length/\i=iN qi (k:Int)/\B.zoneIx far=ni far (B.Z.drop k) k) (λi _=>B.Z.length-(intOf i).toNat)
 case atStart=>exact⟨bR _ _,x,0,zP,rfl,D.out⟩
 case round=>
  obtain⟨f,d,k,H,rfl,y⟩:=hrel;have m:=lH y;clear y;by_cases hlt:k<B.Z.length
  ·obtain⟨b,o,rfl,y1,y2,y3,y4⟩:=(Hat.out.below f (nR _)).Z k _ (lG hlt);have t:=lH (Ahw hlt);generalize C:B.Z[k]=z at*;have Hz:=lH C;clear C;have r:=lH (λw h=>c164 z far g w h);by_cases E:far<=z.far
   ·go_wp2_with (first|(go_at_call 164;refine(r.out _ d).mono ?_;rintro e F ⟨rfl,c⟩))
    go_ret;refine⟨?_,f.trans (c.mono (by have:=f.size;omega))⟩
    show Ag1 (Aij _ _)=_
    rw[m.out,t.out];unfold ni
    rw[if_pos E];rfl
   go_wp2_with (first|(go_at_call 164;refine(r.out _ d).mono ?_;rintro e F ⟨rfl,c⟩))
   go_roundw
   case rel=>
    refine⟨f.trans (c.mono (by have:=f.size;omega)),?_,k+1,zP,by go_num,?_⟩
    ·rw[c.cell (p:=⟨g,0,none⟩) (wBk _ _ d)];exact d
    rw[m.out,t.out]
    conv=>lhs;unfold ni
    rw[if_neg zP]
   case measure=>simp[intOf];omega
  go_wp2;go_ret;refine⟨?_,f⟩
  show Ag1 (Aij _ _)=_
  have e:k=B.Z.length:=zP
  rw[m.out,e,Ah6];rfl
def c130(V:BkV)(B:Bk)(far:Int)(hn:B.Z.length<1000)(w:wD)(d:aI w V B):
 cF tP 130 #[V.val B,iN qi far] w λe w'=>e=rT (iN qi (x9 (B.zoneIx far)))/\bX w.heap.size w w':=by
 have Hat:=lH d;clear d;have l:=lH (λw p=>XQ V B far p hn w);obtain⟨za,la,m,pa,zc,lc,cc,pc⟩:=V;go_enter func130,ntmps130;have f:bX w.heap.size w ((w.alloc (cL #[iN qi B.day,iN qi B.D,iN qi B.U,sL za B.Z.length zc,sL la B.L.length lc,sL m B.C.length cc,sL pa B.P.length pc] 112)).alloc (cL #[iN qi far] 3)):=((bR _ _).alloc (nR _) _).alloc yW _;have c:=lH f;clear f
 go_wp2_with (first|(go_at_call 163;refine(l.out _ _ (Hat.out.below c.out (nR _)) (cell_of (EY w _ _) rfl)).mono ?_;rintro e q ⟨rfl,g⟩))
 go_ret;exact⟨rfl,c.out.trans (g.mono xL)⟩
def last_at{o:Obj}(h:n=w.heap.size):(w.alloc o).heap[n]? =some o:=by
 subst h
 show (w.heap.push o)[w.heap.size]? =some o
 simp
def LV(V:BkV)(B:Bk)(w:wD):
 cF tP 135 #[V.val B] w λe w'=>∃m,e=rT (.agg ((V.row B).push (.map (some m))))/\w.heap.size<=m/\w'.heap[m]? =some (.map #[] 0)/\bX w.heap.size w w':=by
 obtain⟨za,la,d,pa,zc,lc,cc,pc⟩:=V;go_enter func135,ntmps135;have c:= @run_makeMap tP;go_wp2
 go_returns
 refine⟨_,rfl,zP,?_,(((bR _ _).alloc (nR _) _).alloc yW _).alloc xL _⟩;exact last_at yW
def Ba{W w1:wD}(c:bX n W w1):(∀b o,b<n->w1.cell? ⟨b,o,none⟩=W.cell? ⟨b,o,none⟩)/\(∀b o,b<n->w1.frozen? ⟨b,o,none⟩=W.frozen? ⟨b,o,none⟩):=
 ⟨λb o h=>c.cell (p:=⟨b,o,none⟩) h,λb o h=>c.frozen (p:=⟨b,o,none⟩) h⟩
noncomputable def E5:Code:=match f113.body.getD .skip with
 |.seq _ (.seq _ (.seq _ c))=>c
 |_=>.skip
def pr4(V:BkV)(B:Bk)(z:Zn)(a e:Int)(J p:Nat)(W:wD)(N:1<=B.day/\B.day<=1000)(y: -1000<=B.U/\B.U<=1000)(Y:0<=z.day/\z.day<=9/\0<=z.night/\z.night<=9)(O:0<=a/\a<=1000)(T:e<=1000)(c:∀(i:Nat) (x:vL),(V.row B)[i]? =some x->W.cell? ⟨J,i,none⟩=some x)(y0:W.cell? ⟨p,0,none⟩=some (iN qi z.far))(y1:W.cell? ⟨p,1,none⟩=some (iN qi z.day))(y2:W.cell? ⟨p,2,none⟩=some (iN qi z.night))(y3:W.cell? ⟨p,3,none⟩=some (iN qi z.least))(u0 u1 u5 u6 u7 u8 u10 u11 u12 u13 u14 u15 u16 u17 u18 u19 u20 u21 u22 u23 u24 u25 u26 u27 u28:vL)(R:Ending->wD->Prop)(L:∀w',bX W.heap.size W w'->R (rT (iN qi (max z.least (B.secs z a e)))) w'):
 Code.wp tP E5 (bodyPost tP f113 R) ⟨#[u0,u1,iN qi a,iN qi e,pN (some ⟨J,0,none⟩),u5,u6,u7,u8,pN (some ⟨p,0,none⟩),u10,u11,u12,u13,u14,u15,u16,u17,u18,u19,u20,u21,u22,u23,u24,u25,u26,u27,u28],[]⟩ W:=by
 have Z:=c 0 _ rfl;have k1:=c 1 _ rfl;have k2:=c 2 _ rfl;have k3:=c 3 _ rfl;have k4:=c 4 _ rfl;have k5:=c 5 _ rfl;have k6:=c 6 _ rfl;have E:=wBk W _ y0;have t:=wBk W _ Z;simp only at E t;have G:=lH (λw=>c152 V B z a e N y Y O T w);obtain⟨za,la,ca,pa,zc,lc,cc,pc⟩:=V;have H:=lH L;clear L c;have l:bX W.heap.size W W.drew:=(bR _ _).drew;have g:=lH l;clear l;generalize B.secs z a e=x at*;by_cases hx:z.least<x
 ·have U:¬x<z.least:=zP
  have X:¬x<=z.least:=zP
  have D:z.least<=x:=zP
  have m:max z.least x=x:=zP
  have q:=lH m;clear m;generalize r:f113=M;simp only[E5,f113,Agx];go_wp2
  go_region_with (first
   |(go_simp;go_at_call 152;(with_reducible refine(G.out _).mono ?_);rintro e F ⟨rfl,f⟩;have hbw:bX W.heap.size W F:=g.out.trans f;obtain⟨hc,C⟩:=Ba hbw))
  all_goals
   simp only[Aii]
   go_at_K
   go_wp2;subst r;go_ret;have d:=H.out _ hbw;rw[q.out]at d;exact d
 have D:x<=z.least:=zP
 have m:max z.least x=z.least:=zP
 have q:=lH m;clear m;generalize r:f113=M;simp only[E5,f113,Agx];go_wp2
 go_region_with (first
  |(go_simp;go_at_call 152;(with_reducible refine(G.out _).mono ?_);rintro e F ⟨rfl,f⟩;have hbw:bX W.heap.size W F:=g.out.trans f;obtain⟨hc,C⟩:=Ba hbw))
 all_goals
  simp only[Aii]
  go_at_K
  go_wp2;subst r;go_ret;have d:=H.out _ hbw;rw[q.out]at d;exact d
def fM{a:aD}{v:vL}(c:bX n w w')(h:w.cell? a=some v)(hn:w.heap.size<=n):w'.cell? a=some v:=by rw[Ah0 (w:=w) (c.block a.block (nL (wBk w a h) hn))];exact h
def btw(n d c:Int):Bool:=decide (d<=n/\n<=c)
def bJ{n d c:Int}(h:btw n d c=true):d<=n/\n<=c:=by simpa[btw]using h
def dK(n d c:Int)(w:wD):cF tP 114 #[iN qi n,iN qi d,iN qi c] w λe w'=>e=rT (.bool (btw n d c))/\w=w':=A8 n d c w
def uj(c:Int):Bool:=btw c 97 122||btw c 48 57
def XR(c:Int)(w:wD)(g:0<=c)(h1:c<=255):cF tP 247 #[.int .u8 c] w λe w'=>e=rT (.bool (!uj c))/\bX w.heap.size w w':=by
 by_cases f:btw c 97 122=true
 ·go_enter func247,ntmps247
  go_wp2_with (go_at_call 114;refine(dK _ _ _ _).mono ?_;rintro e w' ⟨rfl,rfl⟩)
  all_goals
   go_ret;exact⟨by simp[uj,f],bR _ _⟩
 have d:btw c 97 122=false:=by simpa using f
 go_enter func247,ntmps247
 go_wp2_with (go_at_call 114;refine(dK _ _ _ _).mono ?_;rintro e w' ⟨rfl,rfl⟩)
 all_goals
  go_ret;exact⟨by simp[uj,d],bR _ _⟩
def cfb{f:FuncId}{fn:Func}(h:tP.funcs[f]? =some fn)(g:fn.body.isNone=false)(hn:(fn.name== "runtime.NumGoroutine")=false)(args:Array vL)(u:wD):(callFunc f args).run tP u=.ok (.enter f args) u:=by
 have c:fn.body≠none:=by intro e;rw[e]at g;cases g
 have d:fn.name≠ "runtime.NumGoroutine" :=by simpa using hn
 simp[callFunc,program,Sem.run,h,c,d,bind,Sem.bind,pure]
def firstAt{α:Type}(p:α->Bool):List α->Nat->Int
 |[],_=> -1
 |x::l,i=>if p x then(i:Int)else firstAt p l (i+1)
def yg{α:Type}{p:α->Bool}{l:List α}{x:α}(hx:l[k]? =some x)(h:p x=true):firstAt p (l.drop k) k=k:=by obtain⟨c,rfl⟩:=lS.1 hx;rw[Ahw c,firstAt,if_pos h]
def yh{α:Type}{p:α->Bool}{l:List α}{x:α}(hx:l[k]? =some x)(h:p x=false):firstAt p (l.drop k) k=firstAt p (l.drop (k+1)) (k+1):=by obtain⟨c,rfl⟩:=lS.1 hx;rw[Ahw c,firstAt,if_neg (by rw[h];decide)]
theorem Bc{α:Type}{p:α->Bool}:∀(l:List α) (i:Nat),decide (0<=firstAt p l i)=l.any p
 |[],_=>rfl
 |x::l,i=>by
  unfold firstAt
  cases h:p x with
  |true=>simp[h]
  |false=>simp[h,<-Bc l (i+1)]
def Bd{α:Type}{p:α->Bool}{l:List α}(h:l.length<=k):firstAt p (l.drop k) k= -1:=by rw[Ahy h];rfl
def SlY(w:wD)(c:Option aD)(xs:List UInt8):Prop:=∀(i:Nat) (x:UInt8),xs[i]? =some x->∃b o,c=some ⟨b,o,none⟩/\w.cell? ⟨b,o+i,none⟩=some (.int .u8 (x.toNat:Int))
def SlY.below{c:Option aD}{xs:List UInt8}(h:SlY w c xs)(f:bX n w w')(hn:w.heap.size<=n):SlY w' c xs:=λi x hx=>by obtain⟨b,o,e,d⟩:=h i x hx;exact⟨b,o,e,fM f d hn⟩
def XT(f:FuncId)(p:UInt8->Bool)(G:Option aD)(xs:List UInt8)(n C:Nat)(w:wD)(hn:n=xs.length)(F:SlY w G xs)(N:xs.length<=1000000)(J:∀(c:Array vL) (u:wD),(callFunc f c).run tP u=.ok (.enter f c) u)(E:∀(x:UInt8) (t:wD),x∈xs->cF tP f #[.int .u8 (x.toNat:Int)] t λe w'=>e=rT (.bool (p x))/\bX t.heap.size t w'):
 cF tP 249 #[sL G n C,.func (.func f) #[] #[]] w λe w'=>e=rT (iN qi (firstAt p xs 0))/\bX w.heap.size w w':=by
 subst hn;have H:=lH F;clear F;go_enter func249,ntmps249
 go_wp2_with fail
 go_loopw [8] (λi wr=>∃k:Nat,k<=xs.length/\i=iN qi (k:Int)/\firstAt p xs 0=firstAt p (xs.drop k) k/\bX w.heap.size w wr) (λi _=>xs.length-(intOf i).toNat)
 case atStart=>exact⟨0,Aih _,rfl,rfl,bR _ _⟩
 case round=>
  obtain⟨k,M,rfl,q,m⟩:=hrel;have g:=lH q;clear q;by_cases hlt:k<xs.length
  ·have hx:xs[k]? =some xs[k]:=lG hlt;have d:xs[k]∈xs:=Ah7 hlt;obtain⟨b,o,rfl,L⟩:=(H.out.below m (nR _)) k _ hx;generalize xs[k]=x at*;have D:=lH hx;clear hx
   cases r:p x with
   |true=>
    go_wp2_with fail
    refine(E x _ d).mono ?_;rintro e t ⟨rfl,l⟩
    go_wp2_with fail
    go_ret;exact⟨by rw[g.out,yg D.out r];rfl,m.trans (l.mono m.size)⟩
   |false=>
    have y:=lH r
    go_wp2_with fail
    refine(E x _ d).mono ?_;rintro e t ⟨rfl,l⟩
    go_wp2_with fail
    go_roundw
    case rel=>exact⟨k+1,zP,by go_num,by rw[g.out,yh D.out y.out],m.trans (l.mono m.size)⟩
    case measure=>simp[intOf];omega
  have hke:xs.length<=k:=zP
  go_wp2;go_ret;exact⟨by rw[g.out,Bd hke];rfl,m⟩
def XU(f:FuncId)(p:UInt8->Bool)(q:Option aD)(xs:List UInt8)(n d:Nat)(w:wD)(hn:n=xs.length)(r:SlY w q xs)(y:xs.length<=1000000)(m:∀(c:Array vL) (u:wD),(callFunc f c).run tP u=.ok (.enter f c) u)(C:∀(x:UInt8) (g:wD),x∈xs->cF tP f #[.int .u8 (x.toNat:Int)] g λe w'=>e=rT (.bool (p x))/\bX g.heap.size g w'):
 cF tP 246 #[sL q n d,.func (.func f) #[] #[]] w λe w'=>e=rT (.bool (xs.any p))/\bX w.heap.size w w':=by
 subst hn;have t:=lH r;clear r;go_enter func246,ntmps246
 go_wp2_with (go_at_call 249;refine(XT f p q xs _ d _ rfl t.out y m C).mono ?_;rintro e g ⟨rfl,l⟩)
 go_ret;exact⟨by rw[<-Bc xs 0];rfl,l⟩
def badByte(s:ByteArray):Bool:=s.data.toList.any λc=> !uj (c.toNat:Int)
def XV(s:ByteArray)(f:Option aD)(d:Nat)(w:wD)(g:SlY w f s.data.toList)(l:s.size<=9):
 cF tP 246 #[sL f s.size d,.func (.func 247) #[] #[]] w λe w'=>e=rT (.bool (badByte s))/\bX w.heap.size w w':=
 XU 247 (λc=> !uj (c.toNat:Int)) f s.data.toList s.size d w yW g xL (cfb func247 (by rfl) (by rfl)) (λx m _=>XR _ _ zP (by have:=x.toNat_lt;omega))
def iG(s:ByteArray):Bool:=btw s.size 1 9&&btw ((s.data.toList.headD 0).toNat:Int) 97 122&& !badByte s
def XW(h:btw (s.size:Int) 1 9=true):0<s.size/\s.size<=9:=by have:=bJ h;omega
def E8(h:0<s.size):s.data.toList.headD 0=s[0]:=by
 obtain⟨⟨l⟩⟩:=s
 cases l with
 |nil=>simp[ByteArray.size]at h
 |cons a l=>rfl
def XY(w:wD)(s:ByteArray)(c:Nat)(z:Nat×Nat):SlY (w.alloc (cL (bytesRow s c) 5 z)).drew (some ⟨w.heap.size,0,none⟩) s.data.toList:=by
 intro i x hx;refine⟨w.heap.size,0,rfl,?_⟩;have e:(w.alloc (cL (bytesRow s c) 5 z)).drew.heap[w.heap.size]? =some (cL (bytesRow s c) 5 z):=by
  show (w.heap.push _)[w.heap.size]? =_
  simp
 have f:=(lS.1 hx).1;have d:(bytesRow s c)[i]? =some (.int .u8 (x.toNat:Int)):=by
  unfold bytesRow;rw[Array.getElem?_append_left (by simpa using f),Array.getElem?_map];have:s.data[i]? =some x:=by simpa using hx
  rw[this];rfl
 unfold Aeq;dsimp only;rw[e];simp[d]
def XZ(s:ByteArray)(w:wD):cF tP 242 #[.string s] w λe w'=>e=rT (.bool (iG s))/\bX w.heap.size w w':=by
 cases d:btw (s.size:Int) 1 9 with
 |false=>
  go_enter func242,ntmps242
  go_wp2_with (go_at_call 114;refine(dK _ _ _ _).mono ?_;rintro e w' ⟨rfl,rfl⟩)
  go_ret;exact⟨by simp[iG,d],bR _ _⟩
 |true=>
  obtain⟨r,t⟩:=XW d;have f:=E8 r
  cases h2:btw ((s.data.toList.headD 0).toNat:Int) 97 122 with
  |false=>
   have H:iG s=false:=by unfold iG;rw[d,h2];rfl
   rw[f]at h2;have p:0<=(s[0].toNat:Int):=zP
   have q:(s[0].toNat:Int)<=255:=by have:=s[0].toNat_lt;omega
   have g:=lH H;clear H f;go_enter func242,ntmps242
   go_wp2_with (go_at_call 114;refine(dK _ _ _ _).mono ?_;rintro e w' ⟨rfl,rfl⟩)
   go_ret;exact⟨by rw[g.out];rfl,bR _ _⟩
  |true=>
   have H:iG s= !badByte s:=by unfold iG;rw[d,h2];rfl
   rw[f]at h2;have p:0<=(s[0].toNat:Int):=zP
   have q:(s[0].toNat:Int)<=255:=by have:=s[0].toNat_lt;omega
   have g:=lH H;clear H f;have x:=run_bytes_of_string (P:=tP) w 9 97 5 s underlying9 underlying97 underlying5;go_enter func242,ntmps242;have c:=XY w s (grownCap w s.size 0 5) ((bytesRow s (grownCap w s.size 0 5)).size,(bytesRow s (grownCap w s.size 0 5)).size+1);have l:=lH c;clear c
   go_wp2_with (first|(go_at_call 114;refine(dK _ _ _ _).mono ?_;rintro e w' ⟨rfl,rfl⟩)|fail)
   refine(XV s _ _ _ l.out t).mono ?_;rintro e y ⟨rfl,m⟩;go_wp2;go_ret;exact⟨by rw[g.out];rfl,((bR _ _).alloc (nR _) _).drew.trans (m.mono yW)⟩
def narrowOk(a b d c:Int):Bool:=decide (d<=a/\a<=b/\b<=c/\b-a<3)
def LW(a b d c:Int)(w:wD)(p:0<=d)(h1:c<=1000000):cF tP 245 #[.agg #[iN qi a,iN qi b],iN qi d,iN qi c] w λe w'=>e=rT (.bool (narrowOk a b d c))/\bX w.heap.size w w':=by
 by_cases f:d<=a
 ·by_cases g:a<=b
  ·by_cases l:b<=c
   ·have q:RowKit.wrap64 (b-a)=b-a:=IntWalk.wrap64_in _ zP;by_cases m:b-a<3
    all_goals
     go_enter func245,ntmps245;go_wp2;go_ret;exact⟨by simp[narrowOk,f,g,l,m],(bR _ _).alloc (nR _) _⟩
   go_enter func245,ntmps245;go_wp2;go_ret;exact⟨by simp[narrowOk];omega,(bR _ _).alloc (nR _) _⟩
  go_enter func245,ntmps245;go_wp2;go_ret;exact⟨by simp[narrowOk];omega,(bR _ _).alloc (nR _) _⟩
 go_enter func245,ntmps245;go_wp2;go_ret;exact⟨by simp[narrowOk];omega,(bR _ _).alloc (nR _) _⟩
def c109(t:Int)(w:wD):cF tP 109 #[iN qi t] w λe w'=>e=rT (.bool (btw t 0 200))/\w=w':=by
 go_enter func109,ntmps109
 go_wp2_with (go_at_call 114;refine(dK _ _ _ _).mono ?_;rintro e w' ⟨rfl,rfl⟩)
 go_ret;exact⟨rfl,rfl⟩
def c82(V:BkV)(B:Bk)(n:Int)(w:wD)(h:B.L.length<1000):cF tP 82 #[V.val B,iN qi n] w λe w'=>e=rT (.bool (btw n 0 ((B.L.length:Int)-1)))/\bX w.heap.size w w':=by
 go_enter func82,ntmps82
 go_wp2_with (go_at_call 114;refine(dK _ _ _ _).mono ?_;rintro e w' ⟨rfl,rfl⟩)
 go_ret;exact⟨rfl,(bR _ _).alloc (nR _) _⟩
def kE(B:Bk):Int:=if btw B.day 1 60&&btw B.D 0 B.day&&btw B.U B.D B.day then 0 else 1
def X0(V:BkV)(B:Bk)(w:wD):cF tP 237 #[V.val B] w λe w'=>e=rT (iN qi (kE B))/\bX w.heap.size w w':=by
 cases c:btw B.day 1 60 with
 |false=>
  go_enter func237,ntmps237
  go_wp2_with (go_at_call 114;refine(dK _ _ _ _).mono ?_;rintro e w' ⟨rfl,rfl⟩)
  go_ret;exact⟨by simp[kE,c],(bR _ _).alloc (nR _) _⟩
 |true=>
  cases h2:btw B.D 0 B.day with
  |false=>
   go_enter func237,ntmps237
   go_wp2_with (go_at_call 114;refine(dK _ _ _ _).mono ?_;rintro e w' ⟨rfl,rfl⟩)
   go_ret;exact⟨by simp[kE,h2],(bR _ _).alloc (nR _) _⟩
  |true=>
   cases d:btw B.U B.D B.day with
   |false=>
    go_enter func237,ntmps237
    go_wp2_with (go_at_call 114;refine(dK _ _ _ _).mono ?_;rintro e w' ⟨rfl,rfl⟩)
    go_ret;exact⟨by simp[kE,d],(bR _ _).alloc (nR _) _⟩
   |true=>
    go_enter func237,ntmps237
    go_wp2_with (go_at_call 114;refine(dK _ _ _ _).mono ?_;rintro e w' ⟨rfl,rfl⟩)
    go_ret;exact⟨by simp[kE,c,h2,d],(bR _ _).alloc (nR _) _⟩
def below_drewN{B:Nat}{a:wD}(h:bX B a w)(n:Nat):bX B a (w.drewN n):=h.trans ⟨rfl,rfl,rfl,nR _,λ_ _=>rfl⟩
def jH:Option Int->List Zn->Int
 |_,[]=>0
 |p,z::l=>if btw z.far 0 999=false then 1 else if p.any (λq=>decide (z.far<=q))=true then 7 else if (btw z.day 0 9&&btw z.night 0 9&&btw z.least 0 99)=false then 1 else jH (some z.far) l
def rH(l:List Zn):Nat->Option Int
 |0=>none
 |k+1=>(l[k]?).map (·.far)
def ji(B:Bk):Int:=if btw (B.Z.length:Int) 1 3=false then 2 else jH none B.Z
def X3{l:List Zn}{z:Zn}(h:l[k]? =some z):jH (rH l k) (l.drop k)=if btw z.far 0 999=false then 1 else if (rH l k).any (λq=>decide (z.far<=q))=true then 7 else if (btw z.day 0 9&&btw z.night 0 9&&btw z.least 0 99)=false then 1 else jH (rH l (k+1)) (l.drop (k+1)):=by
 obtain⟨c,rfl⟩:=lS.1 h;have e:rH l (k+1)=some l[k].far:=by show (l[k]?).map (·.far)=_;rw[h];rfl
 rw[e]
 conv=>lhs;rw[Ahw c];unfold jH
def X4{l:List Zn}{p:Option Int}(h:l.length<=k):jH p (l.drop k)=0:=by rw[Ahy h];rfl
def b43(n c g:Int)(w:wD):cF tP 43 #[iN qi n,iN qi c,iN qi g] w λe w'=>e=rT (.bool (btw n c g))/\w=w':=by
 by_cases d:c<=n
 ·have f:n≥c:=d;by_cases h2:n<=g
  ·go_enter func43,ntmps43;go_wp2;go_ret;exact⟨by simp[btw,d,h2],rfl⟩
  go_enter func43,ntmps43;go_wp2;go_ret;exact⟨by simp[btw,d,h2],rfl⟩
 have f:¬n≥c:=d;go_enter func43,ntmps43;go_wp2;go_ret;exact⟨by simp[btw];omega,rfl⟩
def LX{c:Prop}(h:c:=by
 by_cases hlt:k<B.Z.length;rotate_left
 ·have hke:B.Z.length<=k:=zP
  go_wp2;go_ret;exact⟨by rw[Ha.out,Hz.out,X4 hke];rfl,Hb.out⟩
 have hx:B.Z[k]? =some B.Z[k]:=lG hlt;obtain⟨b,o,hza,y0,y1,y2,y3⟩:=(Hat.out.map λb o v _ h=>fM Hb.out h (nR _)).Z k _ hx;simp only at hza;subst hza;have hat2:=X3 hx;have hbw:=wBk wr _ y0;simp only at hbw;generalize B.Z[k]=z at*;obtain⟨zf,zd,zn,zl⟩:=z;simp only at y0 y1 y2 y3 hat2;have Hat2:=lH hat2;clear hx hat2
 cases h2:btw zf 0 999
 ·go_wp2_with (first|(go_at_call 114;refine(dK _ _ _ _).mono ?_;rintro e w' ⟨rfl,rfl⟩)|(go_at_call 43;refine(b43 _ _ _ _).mono ?_;rintro e w' ⟨rfl,rfl⟩))
  go_ret;exact⟨by rw[Ha.out,Hz.out,Hat2.out,if_pos h2];rfl,by first|exact below_drewN (Hb.out.alloc Hb.out.size _) _|exact below_drewN Hb.out _|exact Hb.out.alloc Hb.out.size _|exact Hb.out⟩
 obtain⟨n,hn⟩:∃n,n=k+1:=⟨_,rfl⟩
 go_upto_region 8 with(first|(go_at_call 114;refine(dK _ _ _ _).mono ?_;rintro e w' ⟨rfl,rfl⟩)|(go_at_call 43;refine(b43 _ _ _ _).mono ?_;rintro e w' ⟨rfl,rfl⟩))
 by_cases hk0:(0 :Int)<(k:Int);rotate_left;obtain rfl:k=0:=zP
 have Hpz:Hid (rH B.Z 0=none):=lH rfl;clear hk0
 rotate_left
 obtain⟨j,rfl⟩:∃j,k=j+1:=⟨k-1,zP⟩;have hjl:j<B.Z.length:=zP
 have hxj:B.Z[j]? =some B.Z[j]:=lG hjl;obtain⟨b',o',hza',q0,-, -, -⟩:=(Hat.out.map λb o v _ h=>fM Hb.out h (nR _)).Z j _ hxj;simp only[oI,Addr.mk.injEq]at hza';obtain⟨rfl,rfl,-⟩:=hza';have Hpz:Hid (rH B.Z (j+1)=some B.Z[j].far):=lH (by show (B.Z[j]?).map (·.far)=_;rw[hxj];rfl);clear hxj;generalize B.Z[j].far=qf at*;have hcast:((j+1 :Nat):Int)-1=(j:Int):=zP
 cases h3:decide (zf<=qf);rotate_left
 iterate 2
  rotate_left
  cases h4:btw zd 0 9;rotate_left
  cases h5:btw zn 0 9;rotate_left
  cases h6:btw zl 0 99;rotate_left
 all_goals
  go_quiet (fail)
  go_wp2_with (first|(go_at_call 114;refine(dK _ _ _ _).mono ?_;rintro e w' ⟨rfl,rfl⟩)|(go_at_call 43;refine(b43 _ _ _ _).mono ?_;rintro e w' ⟨rfl,rfl⟩))
  first
  |go_ret;exact⟨by rw[Ha.out,Hz.out,Hat2.out,Hpz.out];simp[*],by first|exact below_drewN (Hb.out.alloc Hb.out.size _) _|exact below_drewN Hb.out _|exact Hb.out.alloc Hb.out.size _|exact Hb.out⟩
  |go_roundw
   case rel=>first|exact⟨n,zP,by rw[hn];go_num,lH (by rw[Hz.out,Hat2.out,Hpz.out,hn];simp[*]),lH (by first|exact below_drewN (Hb.out.alloc Hb.out.size _) _|exact below_drewN Hb.out _|exact Hb.out.alloc Hb.out.size _|exact Hb.out),by go_simp⟩|exact⟨n,zP,by rw[hn];go_num,lH (by rw[Hz.out,Hat2.out,Hpz.out,hn];simp[*]),lH (by first|exact below_drewN (Hb.out.alloc Hb.out.size _) _|exact below_drewN Hb.out _|exact Hb.out.alloc Hb.out.size _|exact Hb.out)⟩
   case measure=>simp[intOf];omega):c:=h
def X5(V:BkV)(B:Bk)(w:wD)(c:aI w V B)(hn:B.Z.length<=1000):cF tP 238 #[V.val B] w λe w'=>e=rT (iN qi (ji B))/\bX w.heap.size w w':=by
 obtain⟨za,la,g,pa,zc,lc,cc,pc⟩:=V;have Hat:=lH c;clear c
 cases d:btw (B.Z.length:Int) 1 3 with
 |false=>
  go_enter func238,ntmps238
  go_wp2_with (go_at_call 114;refine(dK _ _ _ _).mono ?_;rintro e w' ⟨rfl,rfl⟩)
  go_ret;exact⟨by simp[ji,d],(bR _ _).alloc (nR _) _⟩
 |true=>
  have Ha:Hid (ji B=jH none B.Z):=lH (by simp[ji,d]);go_enter func238,ntmps238
  go_wp2_with (go_at_call 114;refine(dK _ _ _ _).mono ?_;rintro e w' ⟨rfl,rfl⟩)
  go_loopw [15] (λi wr=>∃k:Nat,k<=B.Z.length/\i=iN qi (k:Int)/\Hid (jH none B.Z=jH (rH B.Z k) (B.Z.drop k))/\Hid (bX w.heap.size w wr)/\wr.cell? ⟨w.heap.size,3,none⟩=some (sL za B.Z.length zc)) (λi _=>B.Z.length-(intOf i).toNat)
  case atStart=>exact⟨0,Aih _,rfl,lH rfl,lH ((bR _ _).alloc (nR _) _),by go_simp⟩
  case round=>obtain⟨k,l,rfl,Hz,Hb,f⟩:=hrel;have hww:=wBk wr _ f;simp only at hww;exact LX
def X6(V:BkV)(B:Bk)(w:wD)(c:aI w V B)(hn:B.Z.length<=1000):cF tP 115 #[sL V.za B.Z.length V.zc] w λe w'=>e=rT (iN qi (ji B))/\bX w.heap.size w w':=by
 obtain⟨za,la,f,pa,zc,lc,cc,pc⟩:=V;have Hat:=lH c;clear c
 cases d:btw (B.Z.length:Int) 1 3 with
 |false=>
  go_enter func115,ntmps115
  go_wp2_with (go_at_call 43;refine(b43 _ _ _ _).mono ?_;rintro e w' ⟨rfl,rfl⟩)
  go_ret;exact⟨by simp[ji,d],bR _ _⟩
 |true=>
  have Ha:Hid (ji B=jH none B.Z):=lH (by simp[ji,d]);go_enter func115,ntmps115
  go_wp2_with (go_at_call 43;refine(b43 _ _ _ _).mono ?_;rintro e w' ⟨rfl,rfl⟩)
  go_loopw [3] (λi wr=>∃k:Nat,k<=B.Z.length/\i=iN qi (k:Int)/\Hid (jH none B.Z=jH (rH B.Z k) (B.Z.drop k))/\Hid (bX w.heap.size w wr)) (λi _=>B.Z.length-(intOf i).toNat)
  case atStart=>exact⟨0,Aih _,rfl,lH rfl,lH (bR _ _)⟩
  case round=>obtain⟨k,g,rfl,Hz,Hb⟩:=hrel;exact LX
def Bf(c:Int)(w:wD):cF tP 189 #[.int .u8 c] w λe w'=>e=rT (.bool (btw c 97 122))/\w=w':=by
 by_cases d:97<=c<;>by_cases h2:c<=122
 all_goals
  go_enter func189,ntmps189;go_wp2;go_ret;exact⟨by simp[btw,d,h2],rfl⟩
def Bg(c:Int)(w:wD):cF tP 190 #[.int .u8 c] w λe w'=>e=rT (.bool (btw c 48 57))/\w=w':=by
 by_cases d:48<=c<;>by_cases h2:c<=57
 all_goals
  go_enter func190,ntmps190;go_wp2;go_ret;exact⟨by simp[btw,d,h2],rfl⟩
def byteAt(s:ByteArray)(k:Nat):Int:=((s.data.toList[k]?).map λc=>(c.toNat:Int)).getD 0
def oP(s:ByteArray)(k:Nat):Bool:=btw (byteAt s k) 97 122||(decide (k≠0)&&btw (byteAt s k) 48 57)
def Bh(h:k<s.size):(s[k].toNat:Int)=byteAt s k:=by
 unfold byteAt;have c:k<s.data.toList.length:=by simpa using h
 rw[lG c];rfl
def X7(h:∀j,j<s.size->oP s j=true):iG s=btw s.size 1 9:=by
 unfold iG
 cases q:btw (s.size:Int) 1 9 with
 |false=>rfl
 |true=>
  have e:0<s.size:=by have:=bJ q;omega
  have l:((s.data.toList.headD 0).toNat:Int)=byteAt s 0:=by rw[E8 e];exact Bh e
  have r:=h 0 e;rw[l];have t:btw (byteAt s 0) 97 122=true:=by simpa[oP]using r
  rw[t];have x:badByte s=false:=by
   unfold badByte;rw[List.any_eq_false];intro c hc;obtain⟨j,g,rfl⟩:=Ah2 hc;have f:j<s.size:=by simpa using g
   have d:=h j f;have p:byteAt s j=((s.data.toList[j]).toNat:Int):=by unfold byteAt;rw[lG g];rfl
   unfold oP at d;rw[p]at d;unfold uj
   cases m:btw ((s.data.toList[j]).toNat:Int) 97 122 with
   |true=>simp
   |false=>rw[m]at d;simp at d;simp[d.2]
  rw[x];rfl
def X8(d:k<s.size)(h:oP s k=false):iG s=false:=by
 unfold iG;have c:k<s.data.toList.length:=by simpa using d
 have g:byteAt s k=((s.data.toList[k]).toNat:Int):=by unfold byteAt;rw[lG c];rfl
 by_cases e:k=0
 ·subst e;have f:((s.data.toList.headD 0).toNat:Int)=byteAt s 0:=by rw[E8 d];exact Bh d
  rw[f];have:btw (byteAt s 0) 97 122=false:=by simpa[oP]using h
  rw[this];simp
 have l:badByte s=true:=by unfold badByte;rw[List.any_eq_true];refine⟨_,Ah7 c,?_⟩;unfold oP at h;rw[g]at h;unfold uj;simp[e]at h;simp[h.1,h.2]
 rw[l];simp
def X9(s:ByteArray)(E:s.size<=1000000)(w:wD):cF tP 153 #[.string s] w λe w'=>e=rT (.bool (iG s))/\w=w':=by
 go_enter func153,ntmps153
 go_wp2_with fail
 go_loopw [3] (λi wr=>∃k:Nat,k<=s.size/\i=iN qi (k:Int)/\w=wr/\∀j,j<k->oP s j=true) (λi _=>s.size-(intOf i).toNat)
 case atStart=>exact⟨0,Aih _,rfl,rfl,λj x=>zP⟩
 case round=>
  obtain⟨k,D,rfl,rfl,q⟩:=hrel;have p:=lH q;clear q;by_cases hlt:k<s.size
  ·have C:=Bh hlt;have g:=lH (X8 hlt);have l:oP s k=(btw (byteAt s k) 97 122||(decide (k≠0)&&btw (byteAt s k) 48 57)):=rfl;have d:=lH l;clear l;generalize byteAt s k=c at*
   cases r:btw c 97 122 with
   |true=>
    have t:Hid (∀j,j<k+1->oP s j=true):=lH λj x=>by
     by_cases e:j=k
     ·subst e;rw[d.out,r];rfl
     exact p.out j zP
    go_wp2_with (first|(go_at_call 189;refine(Bf _ _).mono ?_;rintro e m ⟨rfl,rfl⟩)|(go_at_call 190;refine(Bg _ _).mono ?_;rintro e m ⟨rfl,rfl⟩))
    go_roundw
    case rel=>exact⟨k+1,zP,by go_num,trivial,t.out⟩
    case measure=>simp[intOf];omega
   |false=>
    by_cases f:k=0
    ·have HF:Hid (iG s=false):=lH (g.out (by rw[d.out,r,f];rfl));have hk0:((k:Int)==0)=true:=by simpa using f
     have y:=lH f;clear f
     go_wp2_with (first|(go_at_call 189;refine(Bf _ _).mono ?_;rintro e m ⟨rfl,rfl⟩)|(go_at_call 190;refine(Bg _ _).mono ?_;rintro e m ⟨rfl,rfl⟩))
     go_ret;exact⟨by rw[HF.out]<;>rfl,rfl⟩
    have hk0:((k:Int)==0)=false:=by simpa using f
    cases h2:btw c 48 57 with
    |true=>
     have t:Hid (∀j,j<k+1->oP s j=true):=lH λj x=>by
      by_cases e:j=k
      ·subst e;rw[d.out,r,h2];simp[f]
      exact p.out j zP
     have y:=lH f;clear f
     go_wp2_with (first|(go_at_call 189;refine(Bf _ _).mono ?_;rintro e m ⟨rfl,rfl⟩)|(go_at_call 190;refine(Bg _ _).mono ?_;rintro e m ⟨rfl,rfl⟩))
     go_roundw
     case rel=>exact⟨k+1,zP,by go_num,trivial,t.out⟩
     case measure=>simp[intOf];omega
    |false=>
     have HF:Hid (iG s=false):=lH (g.out (by rw[d.out,r,h2];simp));have y:=lH f;clear f
     go_wp2_with (first|(go_at_call 189;refine(Bf _ _).mono ?_;rintro e m ⟨rfl,rfl⟩)|(go_at_call 190;refine(Bg _ _).mono ?_;rintro e m ⟨rfl,rfl⟩))
     go_ret;exact⟨by rw[HF.out]<;>rfl,rfl⟩
  have HF:Hid (iG s=btw s.size 1 9):=lH (X7 λj x=>p.out j zP)
  go_wp2_with (go_at_call 43;refine(b43 _ _ _ _).mono ?_;rintro e m ⟨rfl,rfl⟩)
  go_ret;exact⟨by rw[HF.out]<;>rfl,rfl⟩
def SlN(w:wD)(c:Option aD)(xs:List Ln):Prop:=∀(i:Nat) (z:Ln),xs[i]? =some z->∃b o,c=some ⟨b,o,none⟩/\w.cell? ⟨b,o+i*4,none⟩=some (.string z.name)/\w.cell? ⟨b,o+i*4+1,none⟩=some (iN qi z.digits)/\w.cell? ⟨b,o+i*4+2,none⟩=some (iN qi z.s0)/\w.cell? ⟨b,o+i*4+3,none⟩=some (iN qi z.s1)
def SlN.below{d:Option aD}{xs:List Ln}(h:SlN w d xs)(c:bX n w w')(hn:w.heap.size<=n):SlN w' d xs:=λi x hx=>by obtain⟨b,o,e,f,g,h2,l⟩:=h i x hx;exact⟨b,o,e,fM c f hn,fM c g hn,fM c h2 hn,fM c l hn⟩
def kG(t:ByteArray)(x:Ln):Bool:=x.name.toList==t.toList
def Ya(x:Ln)(t:ByteArray)(c:Nat)(w:wD)(d:w.cell? ⟨c,0,none⟩=some (.string t)):
 cF tP 244 #[.agg #[.string x.name,iN qi x.digits,iN qi x.s0,iN qi x.s1],pN (some ⟨c,0,none⟩)] w λe w'=>e=rT (.bool (kG t x))/\bX w.heap.size w w':=by
 have hlt:=wBk w _ d;simp only at hlt;have f:c≠w.heap.size:=zP
 go_enter func244,ntmps244;go_wp2;go_ret;exact⟨rfl,(bR _ _).alloc (nR _) _⟩
def Yb(t:ByteArray)(p:Nat)(D:Option aD)(xs:List Ln)(n q:Nat)(w:wD)(hn:n=xs.length)(C:SlN w D xs)(O:xs.length<=1000)(F:w.cell? ⟨p,0,none⟩=some (.string t)):
 cF tP 248 #[sL D n q,.func (.func 244) #[] #[pN (some ⟨p,0,none⟩)]] w λe w'=>e=rT (iN qi (firstAt (kG t) xs 0))/\bX w.heap.size w w':=by
 subst hn;have E:=lH C;clear C;go_enter func248,ntmps248;go_wp2
 go_loopw [8] (λi wr=>∃k:Nat,k<=xs.length/\i=iN qi (k:Int)/\Hid (firstAt (kG t) xs 0=firstAt (kG t) (xs.drop k) k)/\bX w.heap.size w wr/\wr.cell? ⟨p,0,none⟩=some (.string t)) (λi _=>xs.length-(intOf i).toNat)
 case atStart=>exact⟨0,Aih _,rfl,lH rfl,bR _ _,F⟩
 case round=>
  obtain⟨k,N,rfl,f,l,g⟩:=hrel;have r:=lH (λx w h=>Ya x t p w h);by_cases hlt:k<xs.length
  ·have hx:xs[k]? =some xs[k]:=lG hlt;obtain⟨b,o,rfl,H,J,L,M⟩:=(E.out.below l (nR _)) k _ hx;generalize xs[k]=x at*;have y:=lH hx;clear hx
   cases m:kG t x with
   |true=>
    have c:=lH m
    go_wp2_with (go_at_call 244;refine(r.out x _ g).mono ?_;rw[c.out];rintro e G ⟨rfl,d⟩)
    go_ret;exact⟨by rw[f.out,yg y.out c.out];rfl,l.trans (d.mono l.size)⟩
   |false=>
    have c:=lH m
    go_wp2_with (go_at_call 244;refine(r.out x _ g).mono ?_;rw[c.out];rintro e G ⟨rfl,d⟩)
    go_roundw
    case rel=>exact⟨k+1,zP,by go_num,lH (by rw[f.out,yh y.out c.out]),l.trans (d.mono l.size),fM d g (nR _)⟩
    case measure=>simp[intOf];omega
  have hke:xs.length<=k:=zP
  go_wp2;go_ret;exact⟨by rw[f.out,Bd hke];rfl,l⟩
def Yc(t:ByteArray)(d:Nat)(g:Option aD)(xs:List Ln)(n c:Nat)(w:wD)(hn:n=xs.length)(m:SlN w g xs)(p:xs.length<=1000)(l:w.cell? ⟨d,0,none⟩=some (.string t)):
 cF tP 243 #[sL g n c,.func (.func 244) #[] #[pN (some ⟨d,0,none⟩)]] w λe w'=>e=rT (.bool (xs.any (kG t)))/\bX w.heap.size w w':=by
 have H:=lH (Yb t d g xs n c w hn m p l);clear m hn l;go_enter func243,ntmps243
 go_wp2_with (go_at_call 248;refine H.out.mono ?_;rintro e q ⟨rfl,f⟩)
 go_ret;exact⟨by rw[<-Bc xs 0];rfl,f⟩
end Go.Proofs.Y
namespace Go.Proofs.Y
open Go.RowKit Go.Tp
variable {a:Act} {w u w' u':wD} {listed:Array Bool} {o:Oper} {K:vL->wD->Prop} {n j:Nat} {v:vL} {mo:Option Nat}
section
variable {P:Program} {ops:Array Oper} {Q:Exit->Act->wD->Prop} {z:Nat} {S:wD->Prop}
def oQ(ops:Array Oper):Nat->Nat->Nat->Bool
 |0,_,_=>false
 |f+1,j,i=>((ops[j]?).map λo=>o.after.any λe=>Aif .any e&&(e.on==i||oQ ops f e.on i)).getD false
def Shut(ops:Array Oper)(listed:Array Bool):Prop:=∀(j:Nat) (o:Oper),ops[j]? =some o->listed.getD j false=true->∀e∈o.after,Aif .any e=true->listed.getD e.on false=true
def yj(ops:Array Oper)(listed:Array Bool):Bool:=(Aes ops.size).all λj=> !listed.getD j false||((ops[j]?).map λo=>o.after.all λe=> !Region.binds .any e||listed.getD e.on false).getD true
def LY{ops:Array Oper}(h:yj ops listed=true):Shut ops listed:=λj o d f e l g=>by
 unfold yj at h;rw[Ah8]at h;have c:=h j (Aid.2 (aS.1 d).1);rw[d,f]at c;simp only[Bool.not_true,Bool.false_or,Aaw,Agx,Ah3]at c
 grind [Ah1]
theorem E9{ops:Array Oper}{listed:Array Bool}(m:Shut ops listed):∀(f j i:Nat),(∀o,ops[j]? =some o->∀e∈o.after,Aif .any e=true->listed.getD e.on false=true)->oQ ops f j i=true->listed.getD i false=true
 |0,_,_,_,h=>by cases h
 |f+1,j,i,hj,h=>by
  unfold oQ at h
  cases g:ops[j]? with
  |none=>rw[g]at h;cases h
  |some o=>
   rw[g]at h;simp only[Aaw,Agx,Ah4,Aal,Afd,beq_iff_eq]at h;obtain⟨k,r,p,c⟩:=h;have t:=hj o g _ (Ah5 r) p
   rcases c with c|c
   ·grind
   exact E9 m f _ i (λx l e q d=>m _ x l t e q d) c
theorem LZ{k:Nat}(h:listed.getD k false=true):(listed.setIfInBounds j true).getD k false=true:=by
 by_cases c:j=k
 ·subst c
  rcases Nat.lt_or_ge j listed.size with d|d
  ·simp[d]
  grind
 simp_all
def L6{ops:Array Oper}(l:Shut ops listed)(m:∀o,ops[j]? =some o->∀e∈o.after,Aif .any e=true->listed.getD e.on false=true):Shut ops (listed.setIfInBounds j true):=λk o g p e f d=>by
 by_cases c:j=k
 ·grind [LZ]
 refine LZ (l k o g ?_ e f d)
 simp_all
def Fa(P:Program)(K:vL->wD->Prop):Result Next->Prop
 |.ok (.value v) w'=>K v w'
 |.ok .skip w'=>K ud w'
 |.ok (.enter f args) w'=>cF P f args w' λe c=>∃v,e=rT v/\K v c
 |_=>False
def cO(P:Program)(o:Oper)(a:Act)(w:wD)(K:vL->wD->Prop):Prop:=Fa P K ((execOp a.eval o).run P w)
theorem cO.mono{c:vL->wD->Prop}(h:cO P o a w K)(d:∀v w',K v w'->c v w'):cO P o a w c:=by
 unfold cO at*;generalize (execOp a.eval o).run P w=r at*
 cases r with
 |ok n w'=>
  cases n<;>simp only[Fa]at h⊢ <;>
   first
    |exact d _ _ h
    |exact h.mono λe g ⟨v,f,k⟩=>⟨v,f,d _ _ k⟩
 |halt x w'=>exact h
theorem cO.wp{K:Act->wD->Prop}(h:cO P o a w λv w'=>K (a.put o.dst v) w'):o.wp P a w K Q:=by
 unfold cO at h;unfold Oper.wp;generalize (execOp a.eval o).run P w=r at*
 cases r with
 |ok n w'=>
  cases n<;>simp only[Fa,Oper.upon]at h⊢ <;>
   first
    |exact h
    |(refine h.mono ?_;rintro e c ⟨v,rfl,k⟩;exact k)
 |halt x w'=>exact h.elim
def LaS(P:Program)(ops:Array Oper)(Q:Exit->Act->wD->Prop)(z:Nat)(S:wD->Prop):Nat->Array Bool->Act->wD->Prop
 |0,listed,a,w=>Aig .any ops listed=[]/\Q .normal a w
 |n+1,listed,a,w=>Aig .any ops listed≠[]/\∀i∈Aig .any ops listed,∃o,ops[i]? =some o/\
  ((Ag2 o (yielded ops a.tmps)=false/\LaS P ops Q z S n (listed.setIfInBounds i true) (a.put o.dst ud) w)\/
   (Ag2 o (yielded ops a.tmps)=true/\cO P o a w λv w'=>(i≠z/\i≠z+1->S w')/\LaS P ops Q z S n (listed.setIfInBounds i true) (a.put o.dst v) w'))
theorem Fb:∀(n:Nat) (listed:Array Bool) (a:Act) (w:wD),LaS P ops Q z S n listed a w->wpAny P .any ops Q n listed a w
 |0,_,_,_,h=>h
 |n+1,_,_,_,h=>⟨λe=>absurd e h.1,λi f=>by
  obtain⟨o,g,d⟩:=h.2 i f;unfold Go.wpOp;simp only[g]
  rcases d with⟨c,h2⟩|⟨c,h2⟩
  ·simp only[c,kF,if_false];exact Fb n _ _ _ h2
  simp only[c,if_true]
  exact .inl (cO.wp (h2.mono λv w' k=>Fb n _ _ _ k.2))⟩
def Yd{i:Nat}{g:Oper}(U:ops[i]? =some g)(q:∀(j:Nat) (o:Oper) x b,ops[j]? =some o->o.op≠.select x b)(hz:ops.size<=z\/∃f,oQ ops f z i=true)(aj:ops.size<=z+1\/∃f,oQ ops f (z+1) i=true):
 ∀(n:Nat) (listed:Array Bool) (a:Act) (w:wD),Shut ops listed->
   (∀j c,ops[j]? =some c->j≠i->listed.getD j true=false->(∀e∈c.after,Aif .any e=true->e.on≠i)->g.apart ops c=true)->
   i∈Aig .any ops listed->S w->Ag2 g (yielded ops a.tmps)=true->(∀u,S u->(execOp a.eval g).run P u=.ok (.value v) u)->LaS P ops Q z S n (listed.setIfInBounds i true) (a.put g.dst v) w->LaS P ops Q z S (n+1) listed a w:=by
 intro n
 induction n with
 |zero=>
  intro listed a w _ _ X C Z L H;refine⟨λh=>(by grind),λj O=>?_⟩;by_cases d:j=i
  ·subst d
   refine⟨g,U,.inr ⟨Z,?_⟩⟩;unfold cO;rw[L w C];exact⟨λ_=>C,H⟩
  have N:=ready_mono O d
  rw[H.1]at N
  cases N
 |succ n ih=>
  intro listed a w Y l X C Z L H;refine⟨λh=>(by grind),λj O=>?_⟩;by_cases d:j=i
  ·subst d
   refine⟨g,U,.inr ⟨Z,?_⟩⟩;unfold cO;rw[L w C];exact⟨λ_=>C,H⟩
  obtain⟨ac,ad,H2⟩:=H.2 j (ready_mono O d)
  obtain⟨E,c,p,D⟩:=mem_ready.1 O;have e1:ac=c:=by grind
  rw[e1]at H2;have ah:∀k,k=i->listed.getD k false=false:=λk r=>by
   subst r;have h0:=(mem_ready.1 X).1
   grind
  have G:∀e∈c.after,Aif .any e=true->e.on≠i:=λe he hb af=>by grind
  have F:∀y,(ops.size<=y\/∃f,oQ ops f y i=true)->j≠y:=λy L e=>by
   subst e;have hjl:j<ops.size:=by grind
   grind [E9]
  have V:j≠z/\j≠z+1:=by grind
  obtain⟨N,h2,h3⟩:=Oper.apart_spec (l j c p d E G);have aa:Ag2 c (yielded ops (a.put g.dst v).tmps)=Ag2 c (yielded ops a.tmps):=by grind [wanted_put]
  have T:execOp (a.put g.dst v).eval c=execOp a.eval c:=execOp_put c (λx b=>q j c x b p) a g.dst v N;have m:∀k M,ops[k]? =some M->k≠i->(listed.setIfInBounds j true).getD k true=false->
   (∀e∈M.after,Aif .any e=true->e.on≠i)->g.apart ops M=true:=λk M r W ae F=>by
   refine l k M r W ?_ F;by_cases ag:j=k
   ·grind
   simp_all
  have ab:∀(t:vL) (w':wD),S w'->LaS P ops Q z S n ((listed.setIfInBounds i true).setIfInBounds j true) ((a.put g.dst v).put c.dst t) w'->LaS P ops Q z S (n+1) (listed.setIfInBounds j true) (a.put c.dst t) w':=λt w' R k=>by
   refine ih (listed.setIfInBounds j true) (a.put c.dst t) w' (L6 Y λo ho e he hb=>by rw[p]at ho;cases ho;exact D e he hb) m (ready_mono X (Ne.symm d)) R ?_ (λu hu=>?_) ?_
   ·grind [wanted_put]
   ·rw[execOp_put g (λx b=>q i g x b U) a c.dst t h3];exact L u hu
   grind [Ahx,Act.put_comm]
  refine⟨c,p,?_⟩
  rcases H2 with⟨J,k⟩|⟨J,k⟩
  ·grind
  refine .inr ⟨aa.symm.trans J,?_⟩
  unfold cO at k⊢;rw[T]at k;exact cO.mono (o:=c) (a:=a) (w:=w) k λt w' r=>⟨r.1,ab t w' (r.1 V) r.2⟩
def Ye(i:Nat)(v:vL)(g:S w)(h:LaS P ops Q z S n (listed.setIfInBounds i true) (a.put o.dst v) w)(e:ops[i]? =some o:=by rfl)(p:Region.wanted o (yielded ops a.tmps)=true:=by rfl)(hr:∀u,S u->(execOp a.eval o).run P u=.ok (.value v) u)(m:Region.noSelect ops=true:=by kernel_rfl)(l:Region.free .any ops listed i=true:=by kernel_rfl)(hc:(Region.ready .any ops listed).contains i=true:=by kernel_rfl)(c:yj ops listed=true:=by kernel_rfl)(q:ops.size<=z\/∃f,oQ ops f z i=true:=by first|(refine .inl ?_;decide)|(refine .inr ⟨1,?_⟩;decide+kernel)|(refine .inr ⟨2,?_⟩;decide+kernel)|(refine .inr ⟨3,?_⟩;decide+kernel)|(refine .inr ⟨6,?_⟩;decide+kernel))(d:ops.size<=z+1\/∃f,oQ ops f (z+1) i=true:=by first|(refine .inl ?_;decide)|(refine .inr ⟨1,?_⟩;decide+kernel)|(refine .inr ⟨2,?_⟩;decide+kernel)|(refine .inr ⟨3,?_⟩;decide+kernel)|(refine .inr ⟨6,?_⟩;decide+kernel)):LaS P ops Q z S (n+1) listed a w:=
 Yd e (Region.noSelect_spec m) q d n listed a w (LY c) (Region.free_spec e l) (by grind) g p hr h
def um(i:Nat)(d:ops[i]? =some o:=by rfl)(e:Region.wanted o (yielded ops a.tmps)=true:=by rfl)(hc:Region.ready .any ops listed=[i]:=by kernel_rfl)(h:cO P o a w λv w'=>(i≠z/\i≠z+1->S w')/\LaS P ops Q z S n (listed.setIfInBounds i true) (a.put o.dst v) w'):LaS P ops Q z S (n+1) listed a w:=
 ⟨by rw[hc];exact List.cons_ne_nil _ _,λj c=>by rw[hc,List.mem_singleton]at c;subst c;exact⟨o,d,.inr ⟨e,h⟩⟩⟩
def L8(i j:Nat){d c:Oper}(h1:cO P d a w λv w'=>(i≠z/\i≠z+1->S w')/\LaS P ops Q z S n (listed.setIfInBounds i true) (a.put d.dst v) w')(h2:cO P c a w λv w'=>(j≠z/\j≠z+1->S w')/\LaS P ops Q z S n (listed.setIfInBounds j true) (a.put c.dst v) w')(hoi:ops[i]? =some d:=by rfl)(hoj:ops[j]? =some c:=by rfl)(g:Region.wanted d (yielded ops a.tmps)=true:=by rfl)(e:Region.wanted c (yielded ops a.tmps)=true:=by rfl)(hc:Region.ready .any ops listed=[i,j]:=by kernel_rfl):LaS P ops Q z S (n+1) listed a w:=
 ⟨by rw[hc];exact List.cons_ne_nil _ _,λk f=>by
  rw[hc,List.mem_cons,List.mem_singleton]at f
  rcases f with rfl|rfl
  ·grind
  exact⟨c,hoj,.inr ⟨e,h2⟩⟩⟩
def L9{id:Nat}(z n:Nat)(S:wD->Prop)(c:P.follows .mixedOrders=true)(h:LaS P ops Q z S n (Array.replicate n false) a w.drew)(hn:ops.size=n:=by rfl):(Code.region id ops true).wp P Q a w:=
 wp_region_any c (by rw[hn];exact Fb _ _ _ _ h)
def qj(h:Q .normal a w)(hr:Region.ready .any ops listed=[]:=by kernel_rfl):LaS P ops Q z S 0 listed a w:=⟨hr,h⟩
def vU(hr:(execOp a.eval o).run P w=.ok (.value v) w')(h:K v w'):cO P o a w K:=by unfold cO;rw[hr];exact h
def Mc(hr:(execOp a.eval o).run P w=.ok .skip w')(h:K ud w'):cO P o a w K:=by unfold cO;rw[hr];exact h
theorem Fe{f:FuncId}{args:Array vL}(hr:(execOp a.eval o).run P w=.ok (.enter f args) w')(h:cF P f args w' λe c=>∃v,e=rT v/\K v c):cO P o a w K:=by unfold cO;rw[hr];exact h
end
def eF(w:wD)(mo:Option Nat):w.grownBy w mo:=⟨rfl,rfl,rfl,nR _,λ_ _ _=>rfl⟩
def cZ(h:w.grownBy u mo)(c:u.grownBy u' mo):w.grownBy u' mo:=
 ⟨c.os.trans h.os,c.tape.trans h.tape,c.output.trans h.output,Nat.le_trans h.size c.size,λk d hn=>(c.block k (nL d h.size) hn).trans (h.block k d hn)⟩
section
variable {P:Program} {ops:Array Oper} {Q:Exit->Act->wD->Prop} {z:Nat} {S:wD->Prop}
def gq(ops:Array Oper)(i:Nat):Option Tmp:=(ops[i]?).bind (·.dst)
def dH(ops:Array Oper)(c:Nat->vL):List Nat->Act->Act
 |[],a=>a
 |i::l,a=>dH ops c l (a.put (gq ops i) (c i))
def gU:List Nat->Array Bool->Array Bool
 |[],l=>l
 |i::r,l=>gU r (l.setIfInBounds i true)
theorem Md(c:Nat->vL)(i:Nat):∀(l:List Nat) (a:Act),dH ops c (l++[i]) a=(dH ops c l a).put (gq ops i) (c i)
 |[],_=>rfl
 |_::l,_=>Md c i l _
theorem Fg(i:Nat):∀(l:List Nat) (s:Array Bool),gU (l++[i]) s=(gU l s).setIfInBounds i true
 |[],_=>rfl
 |_::l,_=>Fg i l _
theorem Fh{d c:Nat->vL}:∀(l:List Nat) (a:Act),(∀i∈l,d i=c i)->dH ops d l a=dH ops c l a
 |[],_,_=>rfl
 |j::l,a,h=>by unfold dH;rw[h j Aah];exact Fh l _ λi e=>h i (Rf _ e)
def Yf{f:Nat->vL}{l l':List Nat}(p:l.Perm l')(c:∀i∈l,∀j∈l,i≠j->∀d,gq ops i=some d->gq ops j≠some d):∀a,dH ops f l a=dH ops f l' a:=by
 induction p with
 |nil=>exact λ_=>rfl
 |cons x _ ih=>exact λa=>ih (λi g j m=>c i (Rf _ g) j (Rf _ m)) _
 |swap x y l=>
  intro a;by_cases e:x=y
  ·subst e;rfl
  show dH ops f l ((a.put _ _).put _ _)=dH ops f l ((a.put _ _).put _ _)
  rw[Act.put_comm a _ _ (λd h=>c y yW x yW (Ne.symm e) d h)]
 |trans h1 _ ih1 ih2=>intro a;rw[ih1 c a];exact ih2 (λi g j m=>c i (h1.mem_iff.2 g) j (h1.mem_iff.2 m)) a
def Yg{l l':List Nat}(c:l.Perm l'):∀s,gU l s=gU l' s:=by
 induction c with
 |nil=>exact λ_=>rfl
 |cons x _ ih=>exact λs=>ih _
 |swap x y l=>
  intro s;by_cases e:x=y
  ·subst e;rfl
  show gU l ((s.setIfInBounds _ _).setIfInBounds _ _)=gU l ((s.setIfInBounds _ _).setIfInBounds _ _)
  rw[Ahx _ _ (Ne.symm e)]
 |trans _ _ ih1 ih2=>exact λs=>(ih1 s).trans (ih2 s)
def Yh{o:Option Tmp}{t:Nat}(h:o≠some t):(a.put o v).tmps[t]? =a.tmps[t]? :=by
 cases o with
 |none=>rfl
 |some d=>exact Array.getElem?_setIfInBounds_ne (λe=>h (by rw[e]))
def Fj(a:Act)(o:Option Tmp)(v:vL):(a.put o v).tmps.size=a.tmps.size:=by
 cases o with
 |none=>rfl
 |some d=>simp[Act.put]
theorem Bj{d:Nat->vL}{t:Nat}:∀(l:List Nat) (a:Act),(∀i∈l,gq ops i≠some t)->(dH ops d l a).tmps[t]? =a.tmps[t]?
 |[],_,_=>rfl
 |j::l,a,h=>by unfold dH;rw[Bj l _ λi c=>h i (Rf _ c)];exact Yh (h j Aah)
theorem Fp{f:Nat->vL}{t k:Nat}(d:gq ops k=some t):∀(l:List Nat) (a:Act),k∈l->l.Nodup->(∀j∈l,j≠k->gq ops j≠some t)->t<a.tmps.size->(dH ops f l a).tmps[t]? =some (f k)
 |[],_,h,_,_,_=>by cases h
 |j::l,a,h,hn,hd,hs=>by
  unfold dH;rw[Aic]at hn;by_cases e:j=k
  ·subst e;rw[Bj l _ λi c=>hd i (Rf _ c) (λe=>hn.1 (e▸c)),d];simp[Act.put,hs]
  refine Fp d l _ ?_ hn.2 (λi c=>hd i (Rf _ c)) (by rw[Fj];exact hs)
  rcases Ab3.1 h with h|h
  ·exact absurd h.symm e
  exact h
theorem uo:∀(l:List Nat) (s:Array Bool) (j:Nat) (b:Bool),j∉l->(gU l s).getD j b=s.getD j b
 |[],_,_,_,_=>rfl
 |i::l,s,j,b,h=>by unfold gU;rw[uo l _ j b λc=>h (Rf _ c),getD_set_ne b (λe=>h (by rw[e];exact Aah))]
theorem Bl:∀(l:List Nat) (s:Array Bool) (j:Nat) (b:Bool),j∈l->j<s.size->(gU l s).getD j b=true
 |[],_,_,_,h,_=>by cases h
 |i::l,s,j,b,h,hs=>by
  unfold gU;by_cases c:j∈l
  ·exact Bl l _ j b c (by simpa using hs)
  rw[uo l _ j b c]
  rcases Ab3.1 h with rfl|h
  ·simp[hs]
  exact absurd h c
theorem Bo:∀{l m:List Nat},l.Nodup->(∀i∈l,i∈m)->l.length<=m.length
 |[],_,_,_=>Aih _
 |x::l,m,hn,hs=>by rw[Aic]at hn;have d:=Bo (l:=l) (m:=m.erase x) hn.2 λi c=>(List.mem_erase_of_ne (λe:i=x=>hn.1 (e▸c))).2 (hs i (Rf _ c));have h2:=List.length_erase_of_mem (hs x Aah);have f:=List.length_pos_of_mem (hs x Aah);simp only[Ah9];omega
def needs(ops:Array Oper)(i j:Nat):Bool:=((ops[i]?).map λo=>o.after.any λe=>Aif .any e&&(e.on==j)).getD false
def Bq(ops:Array Oper)(listed:Array Bool)(c:List Nat):Bool:=
 decide c.Nodup&&listed.size==ops.size&&yj ops listed&&
 (c.all λi=>decide (i<ops.size)&& !listed.getD i true)&&
 ((Aes c.length).all λk=>(Aes ops.size).all λj=> !needs ops (c.getD k 0) j||listed.getD j false||(c.take k).contains j)&&
 ((Aes ops.size).all λj=>c.contains j||listed.getD j false||c.all λi=>oQ ops 8 j i)&&
 (c.all λi=>c.all λj=>i==j||(gq ops i).isNone|| !(gq ops i==gq ops j))&&
 ((Aes ops.size).all λi=>((ops[i]?).map λo=>o.after.all λe=>decide (e.on<ops.size)).getD false)
structure Yi (ops:Array Oper) (listed:Array Bool) (pool:List Nat):Prop where
 nd:pool.Nodup
 sz:listed.size=ops.size
 shut:Shut ops listed
 un:∀i∈pool,i<ops.size/\listed.getD i true=false/\∃o,ops[i]? =some o
 topo:∀k,k<pool.length->∀j,needs ops (pool.getD k 0) j=true->listed.getD j false=true\/j∈pool.take k
 out:∀j,j<ops.size->j∉pool->listed.getD j false=false->∀i∈pool,oQ ops 8 j i=true
 dst:∀i∈pool,∀j∈pool,i≠j->∀d,gq ops i=some d->gq ops j≠some d
def Yj{i:Nat}(g:ops[i]? =some o){e:Edge}(he:e∈o.after)(c:Aif .any e=true)(d:e.on=j):needs ops i j=true:=by unfold needs;rw[g];simp only[Aaw,Agx,Ah4,Aal,beq_iff_eq];obtain⟨k,f,rfl⟩:=Ah1 he;exact⟨k,f,c,d⟩
def Me{c:List Nat}(h:Bq ops listed c=true):Yi ops listed c:=by
 unfold Bq at h;simp only[Aal,decide_eq_true_eq,beq_iff_eq,Ah8,Aid,Afd,Aec,List.contains_iff_mem]at h;obtain⟨⟨⟨⟨⟨⟨⟨y,h2⟩,C⟩,h4⟩,h5⟩,h6⟩,D⟩,E⟩:=h;refine⟨y,h2,LY C,λi f=>?_,λk p j hn=>?_,λj g G F i f=>?_,λi f j g r d t m=>?_⟩
 ·obtain⟨a,b⟩:=h4 i f;exact⟨a,b,ops[i],aG a⟩
 ·have g:j<ops.size:=by
   have q:c.getD k 0∈c:=by rw[lD,lG p];exact Ah7 p
   have hlt:=(h4 _ q).1;have l:=E _ hlt;rw[aG hlt]at l;unfold needs at hn;rw[aG hlt]at hn;simp only[Aaw,Agx,Ah4,Ah3,Aal,beq_iff_eq,decide_eq_true_eq]at hn l;obtain⟨x,hx,_,e⟩:=hn;rw[<-e];exact l x hx
  rcases h5 k p j g with(h|h)|h
  ·rw[hn]at h;cases h
  ·exact .inl h
  exact .inr h
 ·rcases h6 j g with(h|h)|h
  ·exact absurd h G
  ·rw[F]at h;cases h
  exact h i f
 rcases D i f j g with(h|h)|h
 ·exact r h
 ·rw[t]at h;cases h
 rw[t,m]at h;simp at h
def Yk(E:wD->wD->Prop)(Er:∀u,E u u)(Et:∀{u u' u''},E u u'->E u' u''->E u u'')(c:List Nat)(R:Nat->vL->wD->Prop)(W:Nat->Bool)(aD:Bq ops listed c=true)(ag:∀i v u u',R i v u->E w u->E u u'->R i v u')(ar:∀i v u,W i=true->R i v u->∃b,v=pN (some ⟨b,0,none⟩)/\b<u.heap.size)(hS:∀u,E w u->S u)(ao:∀i∈c,∀(o:Oper) (a':Act) (u:wD),ops[i]? =some o->E w u->a'.tmps.size=a.tmps.size->a'.defers=a.defers->
 (∀j∈c,needs ops i j=true->∀t,gq ops j=some t->t<a.tmps.size->R j (a'.tmps[t]?.getD ud) u)->
 (∀t,(∀j∈c,gq ops j≠some t)->a'.tmps[t]? =a.tmps[t]?)->
 (Ag2 o (yielded ops a'.tmps)=false/\W i=false/\R i ud u)\/(Ag2 o (yielded ops a'.tmps)=true/\cO P o a' u λv u'=>R i v u'/\E u u'/\(W i=true->∃b,v=pN (some ⟨b,0,none⟩)/\u.heap.size<=b)))(aa:∀(g:Nat->vL) (u:wD),E w u->(∀i∈c,R i (g i) u)->(∀i∈c,∀j∈c,i≠j->W i=true->W j=true->g i≠g j)->
 LaS P ops Q z S n (gU c listed) (dH ops g c a) u):LaS P ops Q z S (n+c.length) listed a w:=by
 have H:=Me aD;have aF:∀(m:Nat) (D:List Nat) (g:Nat->vL) (u:wD),D.length+m=c.length->D.Nodup->(∀i∈D,i∈c)->Shut ops (gU D listed)->E w u->(∀i∈D,R i (g i) u)->
  (∀i∈D,∀j∈D,i≠j->W i=true->W j=true->g i≠g j)->LaS P ops Q z S (n+m) (gU D listed) (dH ops g D a) u:=by
  intro m
  induction m with
  |zero=>
   intro D g u hm M f _ hb hR hA;have hp:D.Perm c:=(List.perm_ext_iff_of_nodup M H.nd).2 λi=>⟨f i,λp=>by
    refine Ad3 λJ=>?_;have:=Bo (l:=i::D) (m:=c) (Aic.2 ⟨J,M⟩) λj d=>by
     rcases Ab3.1 d with rfl|d
     ·exact p
     exact f j d
    simp only[Ah9]at this;omega⟩
   rw[Yg hp,Yf hp λi p j d=>H.dst i (f i p) j (f j d)];exact aa g u hb (λi p=>hR i (hp.mem_iff.2 p)) λi p j d=>hA i (hp.mem_iff.2 p) j (hp.mem_iff.2 d)
  |succ m ih=>
   intro D g u hm M f af hb hR hA;have ab:∀j,j∈Aig .any ops (gU D listed)->j∈c/\j∉D:=λj d=>by
    obtain⟨C,o,N,G⟩:=mem_ready.1 d;have hjl:=(aS.1 N).1;have q:j∉D:=λq=>by
     rw[Bl D listed j true q (by rw[H.sz];exact hjl)]at C
     cases C
    refine⟨Ad3 λaB=>?_,q⟩;rw[uo D listed j true q]at C;have aq:listed.getD j false=false:=by
     have:j<listed.size:=by rw[H.sz];exact hjl
     simp[this]at C⊢; exact C
    obtain⟨i,p,J⟩:∃i∈c,i∉D:=Ad3 λae=>by have hs:∀i∈c,i∈D:=λi p=>Ad3 λh=>ae ⟨i,p,h⟩;have:=Bo H.nd hs;omega
    have hw:=H.out j hjl aB aq i p;have:=E9 af 8 j i (λo2 V e he au=>by rw[N]at V;cases V;exact G e he au) hw;rw[uo D listed i false J]at this;have h2:=(H.un i p).2.1;have ac:=(H.un i p).1;have:i<listed.size:=by rw[H.sz];exact ac
    simp[this]at*
    simp_all
   have al:Aig .any ops (gU D listed)≠[]:=λhe=>by
    have az:∃k,k<c.length/\c.getD k 0∉D:=Ad3 λae=>by
     have hs:∀i∈c,i∈D:=λi p=>by obtain⟨k,F,rfl⟩:=Ah2 p;refine Ad3 λh=>ae ⟨k,F,?_⟩;rw[lD,lG F];exact h
     have:=Bo H.nd hs;omega
    obtain⟨k,⟨F,aC⟩,ak⟩:∃k,(k<c.length/\c.getD k 0∉D)/\∀L,L<k->¬(L<c.length/\c.getD L 0∉D):=by
     obtain⟨k0,hk0⟩:=az
     induction k0 using Nat.strongRecOn with
     |_ k0 ih2=>
      by_cases h:∃L,L<k0/\L<c.length/\c.getD L 0∉D
      ·obtain⟨L,a1,Y⟩:=h
       exact ih2 L a1 Y
      exact⟨k0,hk0,λL ad hh=>h ⟨L,ad,hh⟩⟩
    have U:c.getD k 0∈c:=by rw[lD,lG F];exact Ah7 F
    obtain⟨ac,C,o,N⟩:=H.un _ U;have:c.getD k 0∈Aig .any ops (gU D listed):=mem_ready.2 ⟨by rw[uo D listed _ true aC];exact C,o,N,λe ay aw=>by
     rcases H.topo k F e.on (Yj N ay aw rfl)with h|h
     ·by_cases hD:e.on∈D
      ·have:=(aS.1 N).1
       by_cases hlt:e.on<listed.size
       ·exact Bl D listed _ false hD hlt
       simp[Ahz (Aia hlt)]at h
      rw[uo D listed _ false hD];exact h
     obtain⟨L,ad,e1⟩:=Ah2 h
     simp only[List.length_take,List.getElem_take]at ad e1;have h3:=ak L zP;have aj:L<c.length:=zP
     have:e.on∈D:=Ad3 λhn=>h3 ⟨aj,by rw[lD,lG aj,Agx,e1];exact hn⟩;exact Bl D listed _ false this (by rw[H.sz];exact(H.un _ (f _ this)).1)⟩
    rw[he]at this
    cases this
   refine⟨al,λi p=>?_⟩;obtain⟨U,J⟩:=ab i p;obtain⟨C,o,N,G⟩:=mem_ready.1 p;obtain⟨ac,_,o2,V⟩:=H.un i U;rw[N]at V
   cases V
   refine⟨o,N,?_⟩;have ap:(dH ops g D a).tmps.size=a.tmps.size/\(dH ops g D a).defers=a.defers:=by
    generalize a=a0;clear hS ao aa hb hR hA ih p C G ab al af f M hm
    induction D generalizing a0 with
    |nil=>exact⟨rfl,rfl⟩
    |cons j D ih=>exact⟨(ih (λh=>J (Rf _ h)) _).1.trans (Fj _ _ _),(ih (λh=>J (Rf _ h)) _).2.trans (by cases aG:gq ops j<;>rfl)⟩
   have hE:=ao i U o (dH ops g D a) u N hb ap.1 ap.2 (λj d hn t ht aE=>by
    have q:j∈D:=by
     unfold needs at hn;rw[N]at hn;simp only[Aaw,Agx,Ah4,Aal,beq_iff_eq]at hn;obtain⟨x,hx,ax,e1⟩:=hn;have h4:=G _ (Ah5 hx) ax;rw[e1]at h4;refine Ad3 λq=>?_;rw[uo D listed j false q]at h4;have h5:=(H.un j d).2.1;have:j<listed.size:=by rw[H.sz];exact(H.un j d).1
     simp[this]at h4 h5;rw[h4]at h5;cases h5
    rw[Fp ht D a q M (λj' aA am he=>H.dst j' (f j' aA) j d am t he ht) aE];exact hR j q) (λt ht=>Bj D a λj d=>ht j (f j d))
   have Z:∀v u',R i v u'->E u u'->(W i=true->∃b,v=pN (some ⟨b,0,none⟩)/\u.heap.size<=b)->LaS P ops Q z S (n+m) ((gU D listed).setIfInBounds i true) ((dH ops g D a).put o.dst v) u':=by
    intro v u' r1 r2 r3;have O:∀j∈D,(if j=i then v else g j)=g j:=λj d=>if_neg (λe:j=i=>J (e▸d));have X:(if i=i then v else g i)=v:=if_pos rfl;have e1:(dH ops g D a).put o.dst v=dH ops (λk=>if k=i then v else g k) (D++[i]) a:=by
     rw[Md,<-Fh D a λj d=>(O j d).symm]
     show _=(dH ops g D a).put _ (if i=i then v else g i)
     rw[X];unfold gq;rw[N];rfl
    rw[e1,<-Fg];refine ih (D++[i]) _ u' xL (List.nodup_append.2 ⟨M,yW,λx hx y hy=>by rw[Aag]at hy;exact λe=>J (hy▸e▸hx)⟩) (λj d=>?_) ?_ (Et hb r2) (λj d=>?_) (λj d k F ah a1 Y=>?_)
    ·rcases Aa7.1 d with d|d
     ·exact f j d
     rw[Aag]at d;rw[d];exact U
    ·rw[Fg]
     exact L6 af λo3 an e he av=>by rw[N]at an;cases an;exact G e he av
    ·show R j (if j=i then v else g j) u'
     rcases Aa7.1 d with d|d
     ·rw[O j d];exact ag j _ u u' (hR j d) hb r2
     rw[Aag]at d;rw[d,X];exact r1
    show (if j=i then v else g j)≠(if k=i then v else g k)
    have T:∀j∈D,W j=true->W i=true->g j≠v:=λj d a1 Y=>by
     obtain⟨b,e2,hlt⟩:=ar j _ u a1 (hR j d);obtain⟨b',e3,aH⟩:=r3 Y;rw[e2,e3];intro e4
     cases e4
     omega
    rcases Aa7.1 d with d|d<;>rcases Aa7.1 F with F|F
    ·rw[O j d,O k F];exact hA j d k F ah a1 Y
    ·rw[Aag]at F
     rw[F]at Y⊢;rw[O j d,X];exact T j d a1 Y
    ·rw[Aag]at d
     rw[d]at a1⊢;rw[O k F,X];exact Ne.symm (T k F Y a1)
    rw[Aag]at d F
    exact absurd (d.trans F.symm) ah
   rcases hE with⟨hw,ha,r⟩|⟨hw,hE⟩
   ·exact .inl ⟨hw,Z ud u r (Er _) λh=>by rw[ha]at h;cases h⟩
   exact .inr ⟨hw,hE.mono λv u' ⟨r1,r2,r3⟩=>⟨λ_=>hS u' (Et hb r2),Z v u' r1 r2 r3⟩⟩
 exact aF c.length [] (λ_=>ud) w yW List.nodup_nil (λi p=>by cases p) H.shut (Er _) (λi p=>by cases p) (λi p=>by cases p)
end
section
variable {P:Program} {ops:Array Oper} {Q:Exit->Act->wD->Prop} {z:Nat}
def Ext(mo:Option Nat)(I:wD->Prop)(w u:wD):Prop:=w.grownBy u mo/\I u
def pv(ai:List Nat)(vl:List vL)(c:Nat->Nat)(i:Nat):vL:=if ai.contains i=true then pN (some ⟨c i,0,none⟩)else vl.getD i ud
def jk:List Nat->List vL->Act->Act
 |d::ds,v::vs,a=>jk ds vs (a.put (some d) v)
 |_,_,a=>a
def Fq(ops:Array Oper)(n m:Nat)(c ai:List Nat):Bool:=
 Bq ops (Afc (n+m) false) (Aes n)&&c.length==n&&((Aes n).all λi=>gq ops i==c[i]?)&&
 ((Aes n).all λi=>((ops[i]?).map λo=>(o.looksAt ops).all λd=>(Aes n).all λj=> !(gq ops j==some d)||(needs ops i j&& !ai.contains j)).getD false)&&Region.noSelect ops
theorem MB:∀(c:List Nat) (vl:List vL) (i:Nat) (a:Act) (e:Nat->vL),c.length=vl.length->(∀k,k<c.length->gq ops (i+k)=c[k]?)->(∀k,k<vl.length->vl[k]? =some (e (i+k)))->
 dH ops e (List.range' i c.length) a=jk c vl a
 |[],vl,i,a,e,hl,_,_=>by cases vl<;>rfl
 |d::c,[],_,_,_,hl,_,_=>by cases hl
 |d::c,v::vl,i,a,e,hl,hd,hv=>by
  show dH ops e (i::List.range' (i+1) c.length) a=_
  have f:=hd 0 yW;have h2:=hv 0 yW;simp only[Nat.add_zero,Ad5,oI]at f h2;unfold dH jk;rw[f,<-h2];refine MB c vl (i+1) _ e (by grind) (λk g=>?_) λk g=>?_
  ·have:=hd (k+1) xL
   grind
  have:=hv (k+1) xL
  grind
def eG(P:Program)(ops:Array Oper)(mo:Option Nat)(I:wD->Prop)(w:wD)(ai:List Nat)(ob:Nat->Obj)(A:Act):Nat->List Oper->List vL->Prop
 |i,o::ol,v::vl=>(if ai.contains i=true then o.guard=none/\∀(a:Act) (u:wD),(execOp a.eval o).run P u=.ok (.value (pN (some ⟨u.heap.size,0,none⟩))) (u.alloc (ob i))
  else ∀u,Ext mo I w u->(Ag2 o (yielded ops A.tmps)=false/\v=ud)\/(Ag2 o (yielded ops A.tmps)=true/\cO P o A u λx u'=>x=v/\u.grownBy u' mo/\I u'))/\eG P ops mo I w ai ob A (i+1) ol vl
 |_,_,_=>True
theorem MC{mo:Option Nat}{I:wD->Prop}{w:wD}{ai:List Nat}{ob:Nat->Obj}{A:Act}:∀(i:Nat) (ol:List Oper) (vl:List vL),eG P ops mo I w ai ob A i ol vl->∀k o,ol[k]? =some o->k<vl.length->
 (if ai.contains (i+k)=true then o.guard=none/\∀(a:Act) (u:wD),(execOp a.eval o).run P u=.ok (.value (pN (some ⟨u.heap.size,0,none⟩))) (u.alloc (ob (i+k)))
  else ∀u,Ext mo I w u->(Ag2 o (yielded ops A.tmps)=false/\vl.getD k ud=ud)\/(Ag2 o (yielded ops A.tmps)=true/\cO P o A u λx u'=>x=vl.getD k ud/\u.grownBy u' mo/\I u'))
 |_,[],_,_,_,_,h,_=>by simp at h
 |_,_::_,[],_,_,_,_,h=>by simp at h
 |i,o::ol,v::vl,h,0,o',ho,_=>by simp only[Ad5,oI]at ho;subst ho;exact h.1
 |i,o::ol,v::vl,h,k+1,o',ho,hk=>by
  have:=MC (i+1) ol vl h.2 k o' (by grind) (by grind)
  grind
def MF{T c:Array vL}(h:∀d∈o.looksAt ops,T[d]? =c[d]?):Ag2 o (yielded ops T)=Ag2 o (yielded ops c):=by
 unfold Ag2
 cases f:o.guard with
 |none=>rfl
 |some p=>
  obtain⟨g,b⟩:=p;have:yielded ops T g=yielded ops c g:=by
   unfold yielded
   cases e:(ops[g]?).bind (·.dst)with
   |none=>rfl
   |some d=>grind [Oper.looksAt]
  grind
def Yl{a':Act}(e:∀c b,o.op≠.select c b)(h:∀d∈o.looksAt ops,a.tmps[d]? =a'.tmps[d]?)(he:cO P o a' w K):cO P o a w K:=by
 have:execOp a.eval o=execOp a'.eval o:=execOp_congr o e λx hx=>by
  cases x with
  |tmp t=>have:=h t (List.mem_append_left _ (List.mem_filterMap.2 ⟨.tmp t,by simpa using hx,rfl⟩));simp[Act.eval,this]
  |const v=>rfl
  |global g=>rfl
  |func f=>rfl
 unfold cO at*
 grind
theorem uq{id:Nat}{a:Act}{w:wD}(mo:Option Nat)(I:wD->Prop)(hI:I w.drew)(ab:∀u o,I u->I (u.alloc o))(n m:Nat)(R:List Nat)(ai:List Nat)(ob:Nat->Obj)(vl:(Nat->Nat)->List vL)(hm:P.follows .mixedOrders=true)(ae:ops.size=n+m)(J:Fq ops n m R ai=true)(hv:∀c,vl c=(Aes n).map (pv ai (vl λ_=>0) c))(ad:∀k,mo=some k->k<w.heap.size)(hK:∀(c:Nat->Nat) (A:Act),A=jk R (vl c) a->eG P ops mo I w.drew ai ob A 0 ops.toList (vl λ_=>0)/\
 ∀u,Ext mo I w.drew u->(∀i∈ai,i<n->w.heap.size<=c i/\u.heap[c i]? =some (ob i))->(∀i∈ai,∀j∈ai,i<n->j<n->i≠j->c i≠c j)->LaS P ops Q z (λ_=>True) m (gU (Aes n) (Afc (n+m) false)) A u):(Code.region id ops true).wp P Q a w:=by
 unfold Fq at J;simp only[Aal,beq_iff_eq,Ah8,Aid]at J;obtain⟨⟨⟨⟨aa,V⟩,r⟩,ac⟩,C⟩:=J;have C:=Region.noSelect_spec C;have hH:=(hK (λ_=>0) _ rfl).1;have M:∀c,(vl c).length=n:=λc=>by rw[hv c];simp
 have hA:∀c,dH ops (pv ai (vl λ_=>0) c) (Aes n) a=jk R (vl c) a:=λc=>by
  have:=MB (ops:=ops) R (vl c) 0 a (pv ai (vl λ_=>0) c) (by rw[V,M]) (λk Y=>by rw[Aie];exact r k zP) (λk Y=>by rw[M]at Y;rw[Aie,hv c];simp[Y])
  rw[V,<-List.range_eq_range']at this;exact this
 refine L9 z (n+m) (λ_=>True) hm ?_ ae;have af:w.drew.heap.size=w.heap.size:=rfl;rw[show n+m=m+(Aes n).length by simp;omega];refine Yk (λu u'=>u.grownBy u' mo/\(I u->I u')) (λu=>⟨eF _ _,λh=>h⟩) (λy h2=>⟨cZ y.1 h2.1,λh=>h2.2 (y.2 h)⟩) (Aes n) (λi v u=>if ai.contains i=true then ∃b,v=pN (some ⟨b,0,none⟩)/\w.heap.size<=b/\u.heap[b]? =some (ob i)else v=(vl λ_=>0).getD i ud) (λi=>ai.contains i) (by simpa[Nat.add_comm]using aa) ?_ ?_ (λ_ _=>trivial) ?_ ?_
 ·intro i v u u' hr hw hg;by_cases q:ai.contains i=true
  ·simp only[q,if_true]at hr⊢;obtain⟨b,e,y,h2⟩:=hr;refine⟨b,e,y,?_⟩;rw[hg.1.block b (aS.1 h2).1 λe=>by have:=ad b e.symm;omega];exact h2
  simp only[q]at hr⊢; exact hr
 ·intro i v u q hr;have L:ai.contains i=true:=q
  grind
 ·intro i q o a' u ho T H _ U O;have p:=Aid.1 q;have g:=MC 0 ops.toList _ hH i o (by simpa using ho) (by rw[M];omega);rw[Aie]at g;by_cases f:ai.contains i=true
  ·simp only[f,if_true]at g⊢;refine .inr ⟨by unfold Ag2;rw[g.1],vU (g.2 a' u) ⟨⟨_,rfl,?_,?_⟩,⟨grown_of_alloc _ _ _,ab _ _⟩,λ_=>⟨_,rfl,nR _⟩⟩⟩
   ·have:=T.1.size;exact this
   show (u.heap.push _)[u.heap.size]? =_;simp
  simp only[f]at g⊢;have t:∀d∈o.looksAt ops,a'.tmps[d]? =(jk R (vl λ_=>0) a).tmps[d]? :=λd hd=>by
   rw[<-hA];by_cases W:∃j,j<n/\gq ops j=some d
   ·obtain⟨j,G,E⟩:=W;have y:=ac i p;rw[ho]at y;simp only[Aaw,Agx,Ah8,Aid,Afd,Aec,beq_eq_false_iff_ne,ne_eq,Aal]at y
    rcases y d hd j G with h2|⟨h2,h3⟩
    ·exact absurd E h2
    by_cases r:d<a.tmps.size
    ·have h4:=U j (Aid.2 G) h2 d E r;simp only[h3]at h4;have hP:=Me aa;rw[Fp E (Aes n) a (Aid.2 G) List.nodup_range (λj' F N he=>hP.dst j' F j (Aid.2 G) N d he E) r];have hlt:d<a'.tmps.size:=by rw[H];exact r
     rw[aG hlt]at h4⊢;simp only[pv,h3];exact congrArg some h4
    have e1:a'.tmps[d]? =none:=Ahz (by rw[H];exact Aia r);have e2:(dH ops (pv ai (vl λ_=>0) λ_=>0) (Aes n) a).tmps[d]? =none:=Ahz (by rw[uq.putAll_size];exact Aia r);rw[e1,e2]
   have Z:∀j∈Aes n,gq ops j≠some d:=λj G e=>W ⟨j,Aid.1 G,e⟩;rw[O d Z,Bj _ _ Z]
  rcases g u ⟨T.1,T.2 hI⟩with⟨y,h2⟩|⟨y,h2⟩
  ·exact .inl ⟨by rw[MF t];exact y,yW,h2.symm⟩
  refine .inr ⟨by rw[MF t];exact y,Yl (C i o · · ho) t (h2.mono λx u' ⟨e1,e2,e3⟩=>⟨e1,⟨e2,λ_=>e3⟩,λh=>by simp at h⟩)⟩
 intro vs u T hR hD;obtain⟨c,D⟩:∃c:Nat->Nat,∀i,i<n->ai.contains i=true->vs i=pN (some ⟨c i,0,none⟩)/\w.heap.size<=c i/\u.heap[c i]? =some (ob i):=by
  have:∀i,∃b,i<n->ai.contains i=true->vs i=pN (some ⟨b,0,none⟩)/\w.heap.size<=b/\u.heap[b]? =some (ob i):=λi=>by
   by_cases q:i<n
   ·by_cases f:ai.contains i=true
    ·have:=hR i (Aid.2 q);simp only[f,if_true]at this;obtain⟨b,e⟩:=this;exact⟨b,λ_ _=>e⟩
    exact⟨0,λ_ h=>absurd h f⟩
   exact⟨0,λh=>absurd h q⟩
  obtain⟨c,h⟩:=Classical.skolem.1 this;exact⟨c,h⟩
 have e:dH ops vs (Aes n) a=jk R (vl c) a:=by
  rw[<-hA];refine Fh _ _ λi q=>?_;have p:=Aid.1 q;unfold pv;by_cases f:ai.contains i=true
  ·rw[if_pos f];exact(D i p f).1
  rw[if_neg f];have:=hR i q;simp only[f]at this;exact this
 rw[e];have:=(hK c _ rfl).2 u ⟨T.1,T.2 hI⟩ (λi q p=>(D i p (by simpa using q)).2) λi q j G p X N he=>by
  have L:ai.contains i=true:=by simpa using q
  have F:ai.contains j=true:=by simpa using G
  exact hD i (Aid.2 p) j (Aid.2 X) N L F (by rw[(D i p L).1,(D j X F).1,he])
 simpa[Nat.add_comm]using this
where
 grown_of_alloc (u:wD) (o:Obj) (mo:Option Nat):u.grownBy (u.alloc o) mo:=⟨rfl,rfl,rfl,yW,λk Y _=>Below.heap_alloc _ _ _ Y⟩
 putAll_size {vs:Nat->vL}:∀(l:List Nat) (a:Act),(dH ops vs l a).tmps.size=a.tmps.size
  |[],_=>rfl
  |_::l,_=>(putAll_size l _).trans (Fj _ _ _)
def uw{id:Nat}(mo:Option Nat)(n m:Nat)(d:List Nat)(ai:List Nat)(ob:Nat->Obj)(vl:(Nat->Nat)->List vL)(p:P.follows .mixedOrders=true)(g:ops.size=n+m)(e:Fq ops n m d ai=true)(q:∀c,vl c=(Aes n).map (pv ai (vl λ_=>0) c))(f:∀k,mo=some k->k<w.heap.size)(l:∀(c:Nat->Nat) (A:Act),A=jk d (vl c) a->eG P ops mo (λ_=>True) w.drew ai ob A 0 ops.toList (vl λ_=>0)/\
 ∀u,Ext mo (λ_=>True) w.drew u->(∀i∈ai,i<n->w.heap.size<=c i/\u.heap[c i]? =some (ob i))->(∀i∈ai,∀j∈ai,i<n->j<n->i≠j->c i≠c j)->LaS P ops Q z (λ_=>True) m (gU (Aes n) (Afc (n+m) false)) A u):(Code.region id ops true).wp P Q a w:=
 uq mo (λ_=>True) trivial (λ_ _ _=>trivial) n m d ai ob vl p g e q f l
end
section
variable {P:Program} {ops:Array Oper} {mo:Option Nat} {I:wD->Prop} {w:wD} {ai:List Nat} {ob:Nat->Obj} {A:Act} {i:Nat} {o:Oper} {ol:List Oper} {v:vL} {vl:List vL}
def dL(h:∀u,Ext mo I w u->(execOp A.eval o).run P u=.ok (.value v) u)(hr:eG P ops mo I w ai ob A (i+1) ol vl)(d:o.guard=none:=by rfl)(hc:ai.contains i=false:=by rfl):eG P ops mo I w ai ob A i (o::ol) (v::vl):=by unfold eG;rw[hc];exact⟨λu c=>.inr ⟨by unfold Region.wanted;rw[d],vU (h u c) ⟨rfl,eF _ _,c.2⟩⟩,hr⟩
def oU(h:∀u,Ext mo I w u->Region.wanted o (yielded ops A.tmps)=true/\(execOp A.eval o).run P u=.ok (.value v) u)(hr:eG P ops mo I w ai ob A (i+1) ol vl)(hc:ai.contains i=false:=by rfl):eG P ops mo I w ai ob A i (o::ol) (v::vl):=by unfold eG;rw[hc];exact⟨λu c=>.inr ⟨(h u c).1,vU (h u c).2 ⟨rfl,eF _ _,c.2⟩⟩,hr⟩
def Fv(h:Region.wanted o (yielded ops A.tmps)=false)(hr:eG P ops mo I w ai ob A (i+1) ol vl)(hc:ai.contains i=false:=by rfl):eG P ops mo I w ai ob A i (o::ol) (ud::vl):=by
 unfold eG
 grind
def ql(f:FuncId)(args:Array vL)(he:∀u,Ext mo I w u->(execOp A.eval o).run P u=.ok (.enter f args) u)(h:∀u,Ext mo I w u->cF P f args u λe u'=>e=rT v/\u.grownBy u' mo/\I u')(hr:eG P ops mo I w ai ob A (i+1) ol vl)(c:o.guard=none:=by rfl)(hc:ai.contains i=false:=by rfl):eG P ops mo I w ai ob A i (o::ol) (v::vl):=by
 unfold eG
 grind [Region.wanted,Fe]
def uy(f:FuncId)(args:Array vL)(c:Region.wanted o (yielded ops A.tmps)=true)(he:∀u,Ext mo I w u->(execOp A.eval o).run P u=.ok (.enter f args) u)(h:∀u,Ext mo I w u->cF P f args u λe u'=>e=rT v/\u.grownBy u' mo/\I u')(hr:eG P ops mo I w ai ob A (i+1) ol vl)(hc:ai.contains i=false:=by rfl):eG P ops mo I w ai ob A i (o::ol) (v::vl):=by
 unfold eG
 grind [Fe]
def Ym(h:∀(a:Act) (u:wD),(execOp a.eval o).run P u=.ok (.value (pN (some ⟨u.heap.size,0,none⟩))) (u.alloc (ob i)))(hr:eG P ops mo I w ai ob A (i+1) ol vl)(c:o.guard=none:=by rfl)(hc:ai.contains i=true:=by rfl):eG P ops mo I w ai ob A i (o::ol) (v::vl):=by
 unfold eG
 grind
def grown_of(h:bX w.heap.size w w')(mo:Option Nat):w.grownBy w' mo:=⟨h.os,h.tape,h.output,h.size,λk c _=>h.block k c⟩
def dM(c:u.grownBy u' none){p:aD}{x:vL}(h:u.cell? p=some x):u'.cell? p=some x:=by rw[Ah0 (w:=u) (c.block _ (wBk u _ h) yW)];exact h
def Cells(u:wD):List (aD×vL)->Prop
 |[]=>True
 |(p,v)::l=>u.cell? p=some v/\Cells u l
def rJ(f:u.grownBy u' mo)(g:∀m,mo=some m->∃d c,u.heap[m]? =some (.map d c)){p:aD}{x:vL}(h:u.cell? p=some x):u'.cell? p=some x:=by
 rw[Ah0 (w:=u) (f.block _ (wBk u _ h) λe=>?_)]
 ·exact h
 grind [Aeq]
theorem Cells.grown(e:u.grownBy u' mo)(d:∀m,mo=some m->∃f c,u.heap[m]? =some (.map f c)):∀{l:List (aD×vL)},Cells u l->Cells u' l
 |[],_=>trivial
 |_::_,h=>⟨rJ e d h.1,Cells.grown e d h.2⟩
def Yn{Q:Exit->Act->wD->Prop}{z:Nat}(i:Nat)(u':wD)(hr:(execOp a.eval o).run P u=.ok .skip u')(h:LaS P ops Q z (λ_=>True) n (listed.setIfInBounds i true) a u')(d:ops[i]? =some o:=by rfl)(c:o.dst=none:=by rfl)(e:o.guard=none:=by rfl)(hc:Region.ready .any ops listed=[i]:=by kernel_rfl):LaS P ops Q z (λ_=>True) (n+1) listed a u:=
 um i d (by grind [Region.wanted]) hc (Mc hr ⟨λ_=>trivial,by rw[c];exact h⟩)
def rM:eG P ops mo I w ai ob A i ol []:=by
 unfold eG
 grind
end
end Go.Proofs.Y
namespace Go.Proofs.Y
open Go.RowKit Go.Tp Go.Meter
variable {w:wD} {k:Nat} {B:Bk}
def jI(c:List Ln):List Ln->Int
 |[]=>0
 |x::l=>if iG x.name=false then 4 else if c.any (kG x.name)=true then 5 else if (btw x.digits 1 4&&narrowOk x.s0 x.s1 0 (numbers x.digits-1))=false then 1 else jI (c++[x]) l
def jl(B:Bk):Int:=if btw (B.L.length:Int) 1 3=false then 2 else jI [] B.L
def MG{l:List Ln}{x:Ln}(h:l[k]? =some x):jI (l.take k) (l.drop k)=if iG x.name=false then 4 else if (l.take k).any (kG x.name)=true then 5 else if (btw x.digits 1 4&&narrowOk x.s0 x.s1 0 (numbers x.digits-1))=false then 1 else jI (l.take (k+1)) (l.drop (k+1)):=by
 obtain⟨c,rfl⟩:=lS.1 h;rw[List.take_succ_eq_append_getElem c]
 conv=>lhs;rw[Ahw c];unfold jI
def MH{l:List Ln}{p:List Ln}(h:l.length<=k):jI p (l.drop k)=0:=by rw[Ahy h];rfl
def aI.slN{V:BkV}(h:aI w V B):SlN w V.la B.L:=h.L
theorem SlN.take{c:Option aD}{xs:List Ln}(h:SlN w c xs)(k:Nat):SlN w c (xs.take k):=λi x hx=>h i x (by
 rw[List.getElem?_take]at hx
 split at hx
 ·exact hx
 cases hx)
def MI{w':wD}(h:bX w.heap.size w w'){row:Option Nat}:w.grownBy w' row:=⟨h.os,h.tape,h.output,h.size,λk c _=>h.block k c⟩
def MK{d:Int}(h:1<=d/\d<=4):1<=numbers d/\numbers d<=10000:=by
 obtain⟨n,rfl⟩:∃n:Nat,d=n:=⟨d.toNat,zP⟩
 match n,h with
 |1,_|2,_|3,_|4,_=>decide
def Yo{d:Int}(h:1<=d/\d<=4)(w:wD):cF tP 140 #[iN qi d] w λe w'=>e=rT (iN qi (numbers d))/\w=w':=by have:=LQ d.toNat zP w;rwa [show ((d.toNat:Nat):Int)=d by omega]at this
theorem gV{n:Nat}{w w':wD}(c:bX n w w')(hn:w.heap.size<=n):∀{l:List (aD×vL)},Cells w l->Cells w' l
 |[],_=>trivial
 |_::_,h=>⟨fM c h.1 hn,gV c hn h.2⟩
def Yp{W:wD}{l:List (aD×vL)}(c:bX w.heap.size w W)(h:Cells W l):Hid (∀u,bX W.heap.size W u->Hid (bX W.heap.size W u)/\Hid (bX w.heap.size w u)/\Cells u l)/\Hid (bX w.heap.size w W):=
 ⟨lH λ_ d=>⟨lH d,lH (c.trans (d.mono c.size)),gV d (nR _) h⟩,lH c⟩
def Yq(V:BkV)(B:Bk)(w:wD)(N:aI w V B)(hn:B.L.length<=1000)(O:B.L.length<=V.lc/\V.lc<=9223372036854775807):cF tP 239 #[V.val B] w λe w'=>e=rT (iN qi (jl B))/\bX w.heap.size w w':=by
 obtain⟨za,la,ca,pa,zc,lc,cc,pc⟩:=V;have Hat:=lH N.slN;clear N;simp only at O;obtain⟨aa,ab⟩:=O
 cases p:btw (B.L.length:Int) 1 3 with
 |false=>
  go_enter func239,ntmps239
  go_wp2_with (go_at_call 114;refine(dK _ _ _ _).mono ?_;rintro e w' ⟨rfl,rfl⟩)
  go_ret;exact⟨by simp[jl,p],(bR _ _).alloc (nR _) _⟩
 |true=>
  have Ha:Hid (jl B=jI [] B.L):=lH (by simp[jl,p]);go_enter func239,ntmps239
  go_wp2_with (go_at_call 114;refine(dK _ _ _ _).mono ?_;rintro e w' ⟨rfl,rfl⟩)
  go_loopw [15] (λi wr=>∃k:Nat,k<=B.L.length/\i=iN qi (k:Int)/\Hid (jI [] B.L=jI (B.L.take k) (B.L.drop k))/\Hid (bX w.heap.size w wr)/\wr.cell? ⟨w.heap.size,4,none⟩=some (sL la B.L.length lc)) (λi _=>B.L.length-(intOf i).toNat)
  case atStart=>exact⟨0,Aih _,rfl,lH rfl,lH ((bR _ _).alloc (nR _) _),by go_simp⟩
  case round=>
   obtain⟨k,hk,rfl,Hz,Hb,c3⟩:=hrel;by_cases hlt:k<B.L.length
   ·have hx:B.L[k]? =some B.L[k]:=lG hlt;obtain⟨b,o,hza,y0,y1,y2,y3⟩:=(Hat.out.below Hb.out (nR _)) k _ hx;subst hza;have hat2:=MG hx;have hbw:=wBk wr _ y0;have hww:=wBk wr _ c3;simp only at hbw hww;generalize B.L[k]=z at*;obtain⟨zn,zd,y,C⟩:=z;simp only at y0 y1 y2 y3 hat2;have Hat2:=lH hat2;clear hx hat2;have g:=lH (XZ zn)
    cases h2:iG zn with
    |false=>
     go_wp2_with (go_at_call 242;refine(g.out _).mono ?_;rw[h2];rintro e w1 ⟨rfl,x⟩)
     go_ret;exact⟨by rw[Ha.out,Hz.out,Hat2.out,if_pos h2];rfl,(Hb.out.alloc Hb.out.size _).trans (x.mono (by have:=Hb.out.size;simp;omega))⟩
    |true=>
     have l:Hid (∀u,bX w.heap.size w u->∀W,u.cell? ⟨W,0,none⟩=some (.string zn)->cF tP 243 #[sL (some ⟨b,o,none⟩) k lc,.func (.func 244) #[] #[pN (some ⟨W,0,none⟩)]] u λe u'=>e=rT (.bool ((B.L.take k).any (kG zn)))/\bX u.heap.size u u'):=lH λu c W hf=>Yc zn W _ (B.L.take k) k lc u xL ((Hat.out.below c (nR _)).take k) xL hf
     have hc:Cells (wr.alloc (cL #[.string zn,iN qi zd,iN qi y,iN qi C] 81)) [(⟨wr.heap.size,0,none⟩,.string zn),(⟨wr.heap.size,1,none⟩,iN qi zd),(⟨wr.heap.size,2,none⟩,iN qi y),(⟨wr.heap.size,3,none⟩,iN qi C),(⟨w.heap.size,4,none⟩,sL (some ⟨b,o,none⟩) B.L.length lc)]:=by simp only[Cells,and_true];go_simp
     obtain⟨HF,-⟩:=Yp (Hb.out.alloc Hb.out.size _) hc;clear hc
     go_upto_region 8 with(go_at_call 242;refine(g.out _).mono ?_;rw[h2];rintro e w1 ⟨rfl,x⟩;obtain⟨H,d,Y⟩:=HF.out _ x;obtain⟨n0,n1,n2,n3,n4,-⟩:=Y)
     cases G:(B.L.take k).any (kG zn)with
     |true=>
      go_wp2_with (go_at_call 243;refine(l.out _ d.out _ n0).mono ?_;rw[G];rintro e U ⟨rfl,f⟩;have J:=lH f)
      go_ret;exact⟨by rw[Ha.out,Hz.out,Hat2.out,if_neg (by rw[h2];decide),if_pos G];rfl,d.out.trans (J.out.mono d.out.size)⟩
     |false=>
      cases h4:btw zd 1 4;rotate_left
      have R:=bJ h4;have ad:=MK R
      all_goals
       go_upto_region 10 with(go_at_call 243;refine(l.out _ d.out _ n0).mono ?_;rw[G];rintro e U ⟨rfl,f⟩;obtain⟨J,M,Z⟩:=HF.out _ (H.out.trans (f.mono H.out.size));obtain⟨m0,m1,m2,m3,m4,-⟩:=Z)
       rename_i K;obtain⟨T,h5⟩:∃t,t=narrowOk y C 0 (numbers zd-1):=⟨_,rfl⟩;have m:Hid (Cells U.drew [(⟨wr.heap.size,1,none⟩,iN qi zd),(⟨wr.heap.size,2,none⟩,iN qi y),(⟨wr.heap.size,3,none⟩,iN qi C),(⟨w.heap.size,4,none⟩,sL (some ⟨b,o,none⟩) B.L.length lc)]):=lH ⟨m1,m2,m3,m4,trivial⟩;have L:Hid (bX w.heap.size w U.drew):=lH M.out.drew;clear m0 m1 m2 m3 m4 f n0 n1 n2 n3 n4 y0 y1 y2 y3 c3;have ac:U.drew.heap.size=U.heap.size:=rfl
      refine uw (z:=100) none 15 0 [34,35,36,37,38,39,40,41,42,43,44,45,46,47,33] [] (λ_=>default) (λ_=>[pN (some ⟨wr.heap.size,1,none⟩),iN qi zd,.bool true,.bool false,.bool false,pN (some ⟨wr.heap.size,2,none⟩),.agg #[iN qi y,iN qi C],pN (some ⟨wr.heap.size,1,none⟩),iN qi zd,iN qi (numbers zd),iN qi (numbers zd-1),.bool T,.bool (!T),.bool (!T),.bool (!T)]) xD rfl xD (λ_=>rfl) yW λbs A X=>?_;rotate_left;refine uw (z:=100) none 15 0 [34,35,36,37,38,39,40,41,42,43,44,45,46,47,33] [] (λ_=>default) (λ_=>[pN (some ⟨wr.heap.size,1,none⟩),iN qi zd,.bool false,.bool true,.bool true,ud,ud,ud,ud,ud,ud,ud,ud,.bool true,.bool true]) xD rfl xD (λ_=>rfl) yW λbs A X=>?_
      all_goals
       simp only[jk,Act.put,List.setIfInBounds_toArray,List.set_cons_zero,List.set_cons_succ]at X;subst X;refine⟨?_,λu ⟨c,_⟩ hB _=>?_⟩
       ·iterate 2 refine dL (λu c=>by obtain⟨D,E,F,r,-⟩:=m.out.grown c.1 yW;go_simp) ?_
        refine ql 114 #[iN qi zd,iN qi 1,iN qi 4] (λu c=>by go_simp) (λu c=>(dK zd 1 4 u).mono λe u' ⟨p,h2⟩=>⟨by rw[p,h4],h2▸eF _ _,trivial⟩) ?_
        iterate 2 refine dL (λu c=>by obtain⟨D,E,F,r,-⟩:=m.out.grown c.1 yW;go_simp) ?_
        first
        |iterate 8 refine Fv rfl ?_
        |iterate 4 refine oU (λu c=>⟨rfl,by obtain⟨D,E,F,r,-⟩:=m.out.grown c.1 yW;go_simp⟩) ?_
         refine uy 140 #[iN qi zd] rfl (λu c=>by obtain⟨D,E,F,r,-⟩:=m.out.grown c.1 yW;go_simp) (λu c=>(Yo R u).mono λe u' ⟨p,h2⟩=>⟨p,h2▸eF _ _,trivial⟩) ?_;refine oU (λu c=>⟨rfl,by obtain⟨D,E,F,r,-⟩:=m.out.grown c.1 yW;go_simp;exact IntWalk.i64_in _ zP⟩) ?_;refine uy 245 #[.agg #[iN qi y,iN qi C],iN qi 0,iN qi (numbers zd-1)] rfl (λu c=>by go_simp) (λu c=>(LW y C 0 (numbers zd-1) u zP zP).mono λe u' ⟨p,h2⟩=>⟨by rw[p,h5],MI h2,trivial⟩) ?_;refine oU (λu c=>⟨rfl,by obtain⟨D,E,F,r,-⟩:=m.out.grown c.1 yW;go_simp⟩) ?_
        refine dL (λu c=>by obtain⟨D,E,F,r,-⟩:=m.out.grown c.1 yW;go_simp) ?_;exact dL (λu c=>by go_simp) rM
       refine qj (hr:=by kernel_rfl) ?_;obtain⟨-, -, -,r,-⟩:=m.out.grown c yW;have q:Hid (bX w.heap.size w u):=lH (L.out.trans ⟨c.os,c.tape,c.output,c.size,λj hj=>c.block j (by have:=L.out.size;omega) yW⟩);simp only[Aii]
      ·go_wp2;go_ret;exact⟨by rw[Ha.out,Hz.out,Hat2.out,if_neg (by rw[h2];decide),if_neg (by rw[G];decide),if_pos (by rw[h4];rfl)];rfl,q.out⟩
      cases T
      ·go_wp2;go_ret;exact⟨by rw[Ha.out,Hz.out,Hat2.out,if_neg (by rw[h2];decide),if_neg (by rw[G];decide),if_pos (by rw[h4,<-h5];rfl)];rfl,q.out⟩
      go_wp2;go_roundw
      case rel=>exact⟨k+1,zP,by go_num,lH (by rw[Hz.out,Hat2.out,if_neg (by rw[h2];decide),if_neg (by rw[G];decide),if_neg (by rw[h4,<-h5];decide)]),q,by go_simp⟩
      case measure=>simp[intOf];omega
   have hke:B.L.length<=k:=zP
   go_wp2;go_ret;exact⟨by rw[Ha.out,Hz.out,MH hke];rfl,Hb.out⟩
def c84(t:Int)(w:wD):cF tP 84 #[iN qi t] w λe w'=>e=rT (.bool (btw t 0 200))/\w=w':=by
 go_enter func84,ntmps84
 go_wp2_with (go_at_call 43;refine(b43 _ _ _ _).mono ?_;rintro e w' ⟨rfl,rfl⟩)
 go_ret;exact⟨rfl,rfl⟩
def c61(d:Nat)(q:d<=9)(w:wD):cF tP 61 #[iN qi (d:Int)] w λe w'=>e=rT (iN qi (numbers d))/\w=w':=by
 go_enter func61,ntmps61;go_wp2
 go_loopw [3,4] (λp i wr=>w=wr/\∃k:Nat,k<=d/\i=iN qi (k:Int)/\p=iN qi ((10 :Int)^k)) (λ_ i _=>d-(intOf i).toNat)
 case atStart=>exact⟨rfl,0,zP,rfl,rfl⟩
 case round=>
  obtain⟨rfl,k,r,rfl,rfl⟩:=hrel;have m:=LM k zP;have h2:=LP k;have f:(10 :Int)^(k+1)=10^k*10:=Int.pow_succ ..;generalize g:(10 :Int)^k=p at*;have l:=lH g;have c:=lH f;clear g f;by_cases hlt:k<d
  ·go_wp2;go_roundw
   case rel=>exact⟨trivial,k+1,zP,by go_num,by first|rw[c.out];done|(rw[c.out];go_num)⟩
   case measure=>simp[intOf];omega
  go_wp2;go_ret;have e:k=d:=zP
  subst e;refine⟨?_,rfl⟩
  show Ag1 (Aij _ p)=_
  rw[<-l.out];rfl
def Yr(a b d c:Int)(w:wD):cF tP 191 #[.agg #[iN qi a,iN qi b],iN qi d,iN qi c] w λe w'=>e=rT (.bool (decide (a<=b)&&decide (d<=a)&&decide (b<=c)))/\bX w.heap.size w w':=by
 by_cases f:a<=b<;>by_cases h2:d<=a<;>by_cases g:b<=c
 all_goals
  go_enter func191,ntmps191;go_wp2;go_ret;exact⟨by simp[f,h2,g],(bR _ _).alloc (nR _) _⟩
def c156(c:Int)(w:wD):cF tP 156 #[.int .u8 c] w λe w'=>e=rT (.bool (btw c 48 57))/\w=w':=by
 by_cases d:48<=c<;>by_cases h2:c<=57
 all_goals
  go_enter func156,ntmps156;go_wp2;go_ret;exact⟨by simp[btw,d,h2],rfl⟩
def ML(a b g f:Int)(w:wD)(x:0<=g)(h1:f<=1000000):cF tP 155 #[.agg #[iN qi a,iN qi b],iN qi g,iN qi f] w λe w'=>e=rT (.bool (narrowOk a b g f))/\bX w.heap.size w w':=by
 have H:=lH (Yr a b g f (w.alloc (cL #[iN qi a,iN qi b] 32)))
 cases h:(decide (a<=b)&&decide (g<=a)&&decide (b<=f))with
 |false=>
  have m:Hid (narrowOk a b g f=false):=lH (by simp only[Bool.and_eq_false_iff,decide_eq_false_iff_not]at h;simp only[narrowOk,decide_eq_false_iff_not];omega)
  go_enter func155,ntmps155
  go_wp2_with (go_at_call 191;refine H.out.mono ?_;rw[h];rintro e q ⟨rfl,c⟩;have d:=lH c;clear c)
  go_ret;exact⟨by rw[m.out];rfl,((bR _ _).alloc (nR _) _).trans (d.out.mono yW)⟩
 |true=>
  have l:=h;simp only[Aal,decide_eq_true_eq]at l;have y:RowKit.wrap64 (b-a)=b-a:=IntWalk.wrap64_in _ zP;by_cases p:b-a<3
  all_goals
   go_enter func155,ntmps155
   go_wp2_with (go_at_call 191;refine H.out.mono ?_;rw[h];rintro e q ⟨rfl,c⟩;have r:=fM c (show (w.alloc (cL #[iN qi a,iN qi b] 32)).cell? ⟨w.heap.size,0,none⟩=some (iN qi a)from by go_simp) (nR _);have t:=fM c (show (w.alloc (cL #[iN qi a,iN qi b] 32)).cell? ⟨w.heap.size,1,none⟩=some (iN qi b)from by go_simp) (nR _);have d:=lH c;clear c)
   go_ret;exact⟨by simp[narrowOk,l,p],((bR _ _).alloc (nR _) _).trans (d.out.mono yW)⟩
def SlS(w:wD)(c:Option aD)(xs:List ByteArray):Prop:=∀(i:Nat) (x:ByteArray),xs[i]? =some x->∃b o,c=some ⟨b,o,none⟩/\w.cell? ⟨b,o+i,none⟩=some (.string x)
def SlS.below{n:Nat}{w':wD}{c:Option aD}{xs:List ByteArray}(h:SlS w c xs)(f:bX n w w')(hn:w.heap.size<=n):SlS w' c xs:=λi x hx=>by obtain⟨b,o,e,d⟩:=h i x hx;exact⟨b,o,e,fM f d hn⟩
def c154(t:ByteArray)(r:Option aD)(xs:List ByteArray)(m:Nat)(w:wD)(q:SlS w r xs)(E:xs.length<=1000000):
 cF tP 154 #[sL r xs.length m,.string t] w λe w'=>e=rT (iN qi (firstAt (λx=>t.toList==x.toList) xs 0))/\w=w':=by
 have y:=lH q;clear q;go_enter func154,ntmps154
 go_wp2_with fail
 go_loop [5] (λi=>∃k:Nat,k<=xs.length/\i=iN qi (k:Int)/\firstAt (λx=>t.toList==x.toList) xs 0=firstAt (λx=>t.toList==x.toList) (xs.drop k) k) (λi=>xs.length-(intOf i).toNat)
 case atStart=>exact⟨0,Aih _,rfl,rfl⟩
 case round=>
  obtain⟨k,D,rfl,g⟩:=hrel;have f:=lH g;clear g;by_cases hlt:k<xs.length
  ·have hx:xs[k]? =some xs[k]:=lG hlt;obtain⟨b,o,rfl,C⟩:=y.out k _ hx;generalize xs[k]=x at*;have p:=lH hx;clear hx;have d:(x.toList==t.toList)=(t.toList==x.toList):=by rw[Bool.eq_iff_iff,beq_iff_eq,beq_iff_eq];exact eq_comm
   cases c:(t.toList==x.toList)with
   |true=>
    rw[c]at d;have l:=lH c;clear c
    go_wp2_with fail
    go_ret;exact⟨by rw[f.out,yg p.out l.out];rfl,rfl⟩
   |false=>
    rw[c]at d;have l:=lH c;clear c
    go_wp2_with fail
    go_round
    case rel=>exact⟨k+1,zP,by go_num,by rw[f.out,yh p.out l.out]⟩
    case measure=>simp[intOf];omega
  have hke:xs.length<=k:=zP
  go_wp2;go_ret;exact⟨by rw[f.out,Bd hke];rfl,rfl⟩
def aB(n:Nat)(V:BkV)(B:Bk):List (aD×vL):=[(⟨n,0,none⟩,iN qi B.day),(⟨n,1,none⟩,iN qi B.D),(⟨n,2,none⟩,iN qi B.U),(⟨n,3,none⟩,sL V.za B.Z.length V.zc),(⟨n,4,none⟩,sL V.la B.L.length V.lc),(⟨n,5,none⟩,sL V.ca B.C.length V.cc),(⟨n,6,none⟩,sL V.pa B.P.length V.pc)]
def MN(n:Nat)(c:Cl):List (aD×vL):=[(⟨n,0,none⟩,iN qi c.line),(⟨n,1,none⟩,iN qi c.far),(⟨n,2,none⟩,iN qi c.a0),(⟨n,3,none⟩,iN qi c.a1),(⟨n,4,none⟩,iN qi c.c0),(⟨n,5,none⟩,iN qi c.c1),(⟨n,6,none⟩,iN qi c.made)]
def MO{W:wD}{V:BkV}{l l':List (aD×vL)}(c:aI w V B)(d:bX w.heap.size w W)(h:Cells W l)(f:Cells W l'):Hid (∀u,bX W.heap.size W u->Hid (bX W.heap.size W u)/\Hid (bX w.heap.size w u)/\Hid (aI u V B)/\Cells u l/\Cells u l')/\Hid (bX W.heap.size W W)/\Hid (bX w.heap.size w W)/\Hid (aI W V B):=
 ⟨lH λ_ e=>have q:=d.trans (e.mono d.size);⟨lH e,lH q,lH (c.below q (nR _)),gV e (nR _) h,gV e (nR _) f⟩,lH (.refl _ _),lH d,lH (c.below d (nR _))⟩
def Yt(V:BkV)(B:Bk)(far:Int)(hn:B.Z.length<1000)(w:wD)(c:aI w V B):
 cF tP 132 #[V.val B,iN qi far] w λe w'=>e=rT (iN qi (x9 (B.zoneIx far)))/\bX w.heap.size w w':=by
 obtain⟨za,la,r,pa,zc,lc,cc,pc⟩:=V;have Hat:=lH c;clear c;have p:Hid (B.zoneIx far=ni far (B.Z.drop 0) 0):=lH (by rw[EZ];unfold Bk.zoneIx;simp);go_enter func132,ntmps132;go_wp2
 go_loopw [5] (λi wr=>∃k:Nat,k<=B.Z.length/\i=iN qi (k:Int)/\Hid (B.zoneIx far=ni far (B.Z.drop k) k)/\Hid (bX w.heap.size w wr)/\wr.cell? ⟨w.heap.size,3,none⟩=some (sL za B.Z.length zc)) (λi _=>B.Z.length-(intOf i).toNat)
 case atStart=>exact⟨0,zP,rfl,p,lH ((bR _ _).alloc (nR _) _),by go_simp⟩
 case round=>
  obtain⟨k,t,rfl,d,Hb,q⟩:=hrel;by_cases hlt:k<B.Z.length
  ·obtain⟨b,o,hza,y1,y2,y3,y4⟩:=(Hat.out.below Hb.out (nR _)).Z k _ (lG hlt);simp only at hza;subst hza;have l:=lH (Ahw hlt);generalize m:B.Z[k]=z at*;have Hz:=lH m;clear m;by_cases f:far<=z.far
   ·have g:z.far≥far:=f;go_wp2;go_ret;refine⟨?_,Hb.out⟩
    show Ag1 (Aij _ _)=_
    rw[d.out,l.out];unfold ni
    rw[if_pos f];rfl
   have g:¬z.far≥far:=f;go_wp2;go_roundw
   case rel=>
    refine⟨k+1,zP,by go_num,lH ?_,Hb,by go_simp⟩;rw[d.out,l.out]
    conv=>lhs;unfold ni
    rw[if_neg zP]
   case measure=>simp[intOf];omega
  go_wp2;go_ret;refine⟨?_,Hb.out⟩
  show Ag1 (Aij _ _)=_
  have e:k=B.Z.length:=zP
  rw[d.out,e,Ah6];rfl
def qm(B:Bk)(c:Cl):Int:=if btw c.line 0 ((B.L.length:Int)-1)=false then 6 else if btw c.far 0 999=false then 1 else if B.zoneIx c.far=none then 9 else if narrowOk c.a0 c.a1 0 200=false then 1 else if narrowOk c.c0 c.c1 0 200=false then 1 else if ¬c.made=1/\¬c.made=0 then 1 else if c.c1<c.a0 then 7 else 0
def kH(B:Bk):List Cl->Int
 |[]=>0
 |c::l=>if qm B c=0 then kH B l else qm B c
def iH(B:Bk):Int:=if 3<B.C.length then 2 else kH B B.C
def Yu{l:List Cl}{c:Cl}(h:l[k]? =some c):kH B (l.drop k)=if qm B c=0 then kH B (l.drop (k+1))else qm B c:=by
 obtain⟨d,rfl⟩:=lS.1 h
 conv=>lhs;rw[Ahw d];unfold kH
def Yv{l:List Cl}(h:l.length<=k):kH B (l.drop k)=0:=by rw[Ahy h];rfl
def MP{c:Prop}(h:c:=by
 obtain⟨k,hk,rfl,Hz,Hb,Hc⟩:=hrel;have hc0:=Hc.out;obtain⟨b0,b1,b2,b3,b4,b5,b6,-⟩:=hc0;by_cases hlt:k<B.C.length
 ·have hx:B.C[k]? =some B.C[k]:=lG hlt;obtain⟨b,o,hza,y0,y1,y2,y3,y4,y5,y6⟩:=(Hat.out.below Hb.out (nR _)).C k _ hx;simp only at hza;subst hza;have hat2:=Yu (B:=B) hx;have hbw:=wBk wr _ y0;have hww:=wBk wr _ b0;simp only at hbw hww;generalize B.C[k]=z at*;obtain⟨zl,zf,a0,a1,c0,c1,zm⟩:=z;simp only at y0 y1 y2 y3 y4 y5 y6;have Hat2:=lH hat2;clear hx hat2;have hc:Cells (wr.alloc (cL #[iN qi zl,iN qi zf,iN qi a0,iN qi a1,iN qi c0,iN qi c1,iN qi zm] 62)) (MN wr.heap.size ⟨zl,zf,a0,a1,c0,c1,zm⟩):=by simp only[MN,Cells,and_true];go_simp
  obtain⟨HF,Hb4,Hbw,Hbk⟩:=MO Hat.out (Hb.out.alloc Hb.out.size _) hc (gV ((bR wr.heap.size wr).alloc (nR _) _) (nR _) Hc.out);clear hc
  cases h2:btw zl 0 ((B.L.length:Int)-1);rotate_left
  cases h3:btw zf 0 999;rotate_left
  cases h4:B.zoneIx zf;rotate_left
  rename_i iz;have hiz:¬((iz:Int)<0):=zP
  cases h5:narrowOk a0 a1 0 200;rotate_left
  cases h6:narrowOk c0 c1 0 200;rotate_left
  rcases(by omega:zm=1\/zm=0\/¬zm=1/\¬zm=0)with rfl|rfl|⟨hm1,hm0⟩
  by_cases h8:c1<a0
  rotate_left 2
  by_cases h8:c1<a0
  rotate_left 2
  have hmb1:(zm != 1)=true:=by simpa using hm1
  have hmb0:(zm != 0)=true:=by simpa using hm0
  all_goals
   go_wp2_with (first|(go_at_call 114;refine(dK _ _ _ _).mono ?_;rintro e w' ⟨rfl,rfl⟩)|(go_at_call 43;refine(b43 _ _ _ _).mono ?_;rintro e w' ⟨rfl,rfl⟩)|((first|(go_at_call 82;refine(H82.out ⟨za,la,some ⟨b,o,none⟩,pa,zc,lc,cc,pc⟩ zl _).mono ?_;rw[h2])|((first|go_at_call 130|go_at_call 132);refine(H130.out ⟨za,la,some ⟨b,o,none⟩,pa,zc,lc,cc,pc⟩ zf _ Hbk.out).mono ?_;rw[h4];dsimp only[x9])|((first|go_at_call_of 245 (Value.agg #[iN qi a0,iN qi a1])|go_at_call_of 155 (Value.agg #[iN qi a0,iN qi a1]));refine(H245.out a0 a1 _).mono ?_;rw[h5])|((first|go_at_call 245|go_at_call 155);refine(H245.out c0 c1 _).mono ?_;rw[h6]));rintro e w5 ⟨rfl,hb5⟩;have Hn:=HF.out _ (Hb4.out.trans (hb5.mono Hb4.out.size));clear hb5 Hb4;obtain⟨Hb4,Hbw,Hbk,hc5,hd5⟩:=Hn;obtain⟨n0,n1,n2,n3,n4,n5,n6,-⟩:=hc5;obtain⟨m0,m1,m2,m3,m4,m5,m6,-⟩:=hd5))
   first
   |go_ret;exact⟨by rw[Hz.out,Hat2.out];simp[qm, *],Hbw.out⟩
   |go_roundw
    case rel=>exact⟨k+1,zP,by go_num,lH (by rw[Hz.out,Hat2.out,if_pos (by simp[qm, *])]),Hbw,lH ⟨m0,m1,m2,m3,m4,m5,m6,trivial⟩⟩
    case measure=>simp[intOf];omega
 have hke:B.C.length<=k:=zP
 go_wp2;go_ret;exact⟨by rw[Hz.out,Yv hke];rfl,Hb.out⟩):c:=h
def Yw(V:BkV)(B:Bk)(w:wD)(d:aI w V B)(m:B.Z.length<1000)(l:B.L.length<1000)(hn:B.C.length<=1000):cF tP 240 #[V.val B] w λe w'=>e=rT (iN qi (iH B))/\bX w.heap.size w w':=by
 obtain⟨za,la,p,pa,zc,lc,cc,pc⟩:=V;have Hat:=lH d;clear d;have H82:=lH λV n u=>c82 V B n u l;have H130:=lH λV f=>c130 V B f m;have H245:=lH λa b u=>LW a b 0 200 u zP zP;by_cases g:3<B.C.length
 ·have c:(3 :Int)<(B.C.length:Int):=zP
  go_enter func240,ntmps240;go_wp2;go_ret;exact⟨by simp[iH,g],(bR _ _).alloc (nR _) _⟩
 have Ha:Hid (iH B=kH B (B.C.drop 0)):=lH (by simp[iH,g]);have c:¬(3 :Int)<(B.C.length:Int):=zP
 go_enter func240,ntmps240;go_wp2;clear g c
 go_loopw [14] (λi wr=>∃k:Nat,k<=B.C.length/\i=iN qi (k:Int)/\Hid (iH B=kH B (B.C.drop k))/\Hid (bX w.heap.size w wr)/\Hid (Cells wr (aB w.heap.size ⟨za,la,p,pa,zc,lc,cc,pc⟩ B))) (λi _=>B.C.length-(intOf i).toNat)
 case atStart=>exact⟨0,Aih _,rfl,Ha,lH ((bR _ _).alloc (nR _) _),lH (by simp only[aB,Cells,and_true];go_simp)⟩
 case round=>exact MP
def c117(V:BkV)(B:Bk)(w:wD)(d:aI w V B)(l:B.Z.length<1000)(p:B.L.length<1000)(hn:B.C.length<=1000):cF tP 117 #[V.val B] w λe w'=>e=rT (iN qi (iH B))/\bX w.heap.size w w':=by
 obtain⟨za,la,m,pa,zc,lc,cc,pc⟩:=V;have Hat:=lH d;clear d;have H130:=lH λV f=>Yt V B f l;have H245:=lH λa b u=>ML a b 0 200 u zP zP;by_cases g:3<B.C.length
 ·have c:(3 :Int)<(B.C.length:Int):=zP
  go_enter func117,ntmps117;go_wp2;go_ret;exact⟨by simp[iH,g],(bR _ _).alloc (nR _) _⟩
 have Ha:Hid (iH B=kH B (B.C.drop 0)):=lH (by simp[iH,g]);have c:¬(3 :Int)<(B.C.length:Int):=zP
 go_enter func117,ntmps117;go_wp2;clear g c
 go_loopw [3] (λi wr=>∃k:Nat,k<=B.C.length/\i=iN qi (k:Int)/\Hid (iH B=kH B (B.C.drop k))/\Hid (bX w.heap.size w wr)/\Hid (Cells wr (aB w.heap.size ⟨za,la,m,pa,zc,lc,cc,pc⟩ B))) (λi _=>B.C.length-(intOf i).toNat)
 case atStart=>exact⟨0,Aih _,rfl,Ha,lH ((bR _ _).alloc (nR _) _),lH (by simp only[aB,Cells,and_true];go_simp)⟩
 case round=>exact MP
end Go.Proofs.Y
