/- A part of the proof of a law; no conditions of its own. -/
import Derived.Test.YtfiiffnbggnkfaaDoorAv20
import Derived.Deep.RegionWith
open Go renaming Addr→aD, Calls→cF, Value→vL, World→wD
open Go.RowKit renaming Below→bX
open Go.IntKind renaming i64→qi
open Go.Value renaming int→iN, slice→sL, pointer→pN
open Go.Ending renaming returned→rT
open Go.Obj renaming cells→cL
set_option maxRecDepth 100000
open Go renaming undef→ud
open Nat renaming le_refl→nR
open Go.Lib renaming hid→lH
open Go.RowKit.Below renaming refl→bR
open Go.Proofs.Tryd renaming prog→tP
open List renaming getElem?_eq_getElem→lG
open Array renaming getElem?_eq_some_iff→aS
open Go.World renaming block_lt_of_cell?→wBk
open Go.World renaming cell?_setCell_other→wO
open Go.World renaming cell?_setCell_far→wF
open Option.some renaming injEq→oI
open List renaming getD_eq_getElem?_getD→lD
set_option maxHeartbeats 4000000
namespace Go.Proofs.YtfiiffnbggnkfaaDoor
open Go.RowKit Go.Rent Go.Tp Go.Conc
def bnd (xs:List (Int×Int)) (k:Nat):Int×Int:=xs.getD k (0,0)
theorem Nl {w:wD} {xs:List (Int×Int)} {xa:Option aD} (hx:SlB w xa xs) {k:Nat} (hk:k<xs.length): ∃tb tofs,xa=some ⟨tb,tofs,none⟩/\w.cell? ⟨tb,tofs+k*2,none⟩=some (iN qi (bnd xs k).1)/\w.cell? ⟨tb,tofs+k*2+1,none⟩=some (iN qi (bnd xs k).2):=by
 have hk':xs[k]? =some xs[k]:=lG hk;obtain⟨b,o,e2,h3,h4⟩:=hx k _ hk';have:bnd xs k=xs[k]:=by
  unfold bnd;rw[lD,hk'];rfl
 exact⟨b,o,e2,by rw[this];exact h3,by rw[this];exact h4⟩
theorem aah {xs ys:List (Int×Int)} {k:Nat} (h:k<xs.length) (h2:k<ys.length):(xs.drop k=ys.drop k)=(bnd xs k=bnd ys k/\xs.drop (k+1)=ys.drop (k+1)):=by
 have t1:bnd xs k=xs[k]:=by unfold bnd;rw[lD,lG h];rfl
 have t2:bnd ys k=ys[k]:=by unfold bnd;rw[lD,lG h2];rfl
 rw[t1,t2,List.drop_eq_getElem_cons h,List.drop_eq_getElem_cons h2,List.cons.injEq]
theorem aai (a b c d:Int) (w:wD):(Op.equalIn 10000 33 (.agg #[iN qi a,iN qi b]) (.agg #[iN qi c,iN qi d])).run tP w= .ok (a==c&&b==d) w:=by
 have u3:=Tryd.underlying3;have a3:=Tryd.isAgg3;have z3:=Tryd.sizeOf3;rw[show (10000 :Nat)=9999+1 from rfl,Op.equalIn];simp only[Sem.run_bind,run_underlying Tryd.underlying33,Result.andThen_ok];go_simp;by_cases h1:a=c<;>by_cases h2:b=d<;>simp[h1,h2]
theorem c18 (xs ys:List (Int×Int)) (xa ya:Option aD) (xc yc:Nat) (w:wD) (hx:SlB w xa xs) (hy:SlB w ya ys) (hxl:xs.length<=1000000) (hyl:ys.length<=1000000):
  cF tP 27 #[sL xa xs.length xc,sL ya ys.length yc] w fun e w'=>e= rT (.bool (decide (xs=ys)))/\bX w.heap.size w w':=by
 have HX:=lH hx;have HY:=lH hy;have HLn:=lH (And.intro hxl hyl);clear hx hy hxl hyl;by_cases hlen:xs.length=ys.length
 ·have hne1:((xs.length:Int) != (ys.length:Int))=false:=by simp[hlen]
  have hne2:(xs.length != ys.length)=false:=by simp[hlen]
  have Hlen:=lH hlen;clear hlen;go_enter Tryd.func27,Tryd.ntmps27
  go_wp2_with fail
  go_loopw [5] (fun i wr=> ∃k:Nat,k<=xs.length/\i= iN qi (k:Int)/\(xs=ys↔xs.drop k=ys.drop k)/\ ∃n,wr=w.drewN n) (fun i _=>xs.length-(intOf i).toNat)
  case atStart=>exact⟨0,Nat.zero_le _,rfl,by simp,0,rfl⟩
  case round=>
   obtain⟨k,hk,rfl,hfk,n,rfl⟩:=hrel;have Hfk:=lH hfk;clear hfk;by_cases hlt:k<xs.length
   ·have hlt2:k<ys.length:=by have:=Hlen.out;omega
    obtain⟨tb,tofs,rfl,h1,h2⟩:=Nl HX.out hlt;obtain⟨sb,sofs,rfl,h3,h4⟩:=Nl HY.out hlt2;have Hst:=lH (aah hlt hlt2);generalize bnd xs k=x at *;generalize bnd ys k=y at *;obtain⟨a,b⟩:=x;obtain⟨c,d⟩:=y;simp only at h1 h2 h3 h4;have hk1:(k:Int)<(xs.length:Int):=by omega
    have hk2:(k:Int)<(ys.length:Int):=by omega
    have hq:=aai a b c d;by_cases h0:a=c/\b=d
    ·obtain⟨rfl,rfl⟩:=h0;have HH:Hid (xs=ys↔xs.drop (k+1)=ys.drop (k+1)):=lH (by rw[Hfk.out,Hst.out];simp);have hq2:(a==a&&b==b)=true:=by simp
     have hl:=HLn.out.1
     go_wp2_with fail
     go_quiet (fail)
     go_wp2;exact⟨⟨k+1,by omega,rfl,HH.out,n+nq,rfl⟩,by simp[intOf];omega⟩
    ·have HH:Hid (decide (xs=ys)=false):=lH (decide_eq_false (by
      rw[Hfk.out,Hst.out];rintro⟨e,_⟩;simp only[Prod.mk.injEq] at e;exact h0 e))
     have hq2:(a==c&&b==d)=false:=by
      cases e:(a==c&&b==d) with
      |false=>rfl
      |true=>exact absurd (by simpa using e) h0
     have hl:=HLn.out.1;rw[hq2] at hq;clear hq2 h0
     go_wp2_with fail
     go_quiet (fail)
     go_wp2;go_ret;exact⟨by rw[HH.out];rfl,aV (aV (bR _ _) _) _⟩
   ·have HH:Hid (decide (xs=ys)=true):=lH (decide_eq_true (by
     rw[Hfk.out,List.drop_of_length_le (show xs.length<=k by omega),List.drop_of_length_le (show ys.length<=k by have:=Hlen.out;omega)]))
    have hl: ¬(k:Int)<(xs.length:Int):=by omega
    go_wp2;go_ret;exact⟨by rw[HH.out];rfl,aV (bR _ _) _⟩
 ·have HH:Hid (decide (xs=ys)=false):=lH (decide_eq_false fun h=>hlen (by rw[h]));have hne1:((xs.length:Int) != (ys.length:Int))=true:=by simp;omega
  have hne2:(xs.length != ys.length)=true:=by simp[hlen]
  clear hlen;go_enter Tryd.func27,Tryd.ntmps27;go_wp2;go_ret;exact⟨by rw[HH.out];rfl,bR _ _⟩
theorem EO (a b:Int) (w:wD):cF tP 8 #[iN qi a,iN qi b] w fun e w'=>e= rT (.agg #[iN qi a,iN qi b])/\w'=w.alloc (cL #[iN qi a,iN qi b] 33):=by
 go_enter Tryd.func8,Tryd.ntmps8;go_wp2;exact bodyPost_ret (v:= .agg #[iN qi a,iN qi b]) (by simp[results,Tryd.results8,go_sem]) rfl ⟨rfl,rfl⟩
def exB:Bk where
 hours:=2
 towns:= [⟨#[104,117,98]⟩,⟨#[97,110,116]⟩,⟨#[98,101,101]⟩,⟨#[99,97,116]⟩]
 links:= [⟨0,1,[(1,10)]⟩,⟨0,2,[(1,10)]⟩,⟨0,3,[(1,10)]⟩,⟨1,2,[(1,15),(2,5)]⟩]
 pairs:= [⟨0,1,[(1,2),(1,1)]⟩,⟨1,2,[(0,2),(3,3)]⟩,⟨2,3,[(1,1),(0,0)]⟩]
theorem aaj (u:wD) (o:Obj) (k:Nat) (h:k=u.heap.size):(u.alloc o).heap[k]? =some o:=by subst h;exact heap_alloc_new u o
theorem aak {u:wD} {o p:Obj} {k:Nat} (hk:k<u.heap.size) (h:u.heap[k]? =some p):(u.alloc o).heap[k]? =some p:=(heap_alloc_old u o hk).trans h
theorem c54 (w:wD):cF tP 12 #[] w fun e w'=> ∃V,e= rT (V.val exB)/\aB w' V exB/\fH w' V/\bX w.heap.size w w':=by
  go_enter Tryd.func12,Tryd.ntmps12
  go_wp2_with (go_at_call 8;refine(EO _ _ _).mono ?_;rintro e w' ⟨rfl,rfl⟩)
  refine bodyPost_ret (v:= .agg #[iN qi 2,sL (some ⟨w.heap.size+1+1,0,none⟩) 4 4,sL (some ⟨w.heap.size+1+1+1+1,0,none⟩) 4 4,sL (some ⟨w.heap.size+1+1+1+1+1+1+1+1+1+1+1+1+1+1,0,none⟩) 3 3]) (by simp[results,Tryd.results12,go_sem]) rfl ?_;generalize hWd:World.alloc _ _=W;have hbl:bX w.heap.size w W:=by
    subst hWd
    repeat first
      |exact bR _ _
      |refine Below.alloc ?_ (by simp<;>omega) _
  obtain⟨r1,r2,r3,r4,r7,r10,r13,r14⟩:W.heap[w.heap.size+1]? =some (cL #[iN qi 1,iN qi 10] 76 (0,0))/\
      W.heap[w.heap.size+1+1]? =some (cL #[.string ⟨#[104,117,98]⟩,.string ⟨#[97,110,116]⟩,.string ⟨#[98,101,101]⟩,.string ⟨#[99,97,116]⟩] 9 (0,0))/\
      W.heap[w.heap.size+1+1+1]? =some (cL #[iN qi 1,iN qi 15,iN qi 2,iN qi 5] 76 (0,0))/\
      W.heap[w.heap.size+1+1+1+1]? =some (cL #[iN qi 0,iN qi 1,sL (some ⟨w.heap.size+1,0,none⟩) 1 1,iN qi 0,iN qi 2,sL (some ⟨w.heap.size+1,0,none⟩) 1 1,iN qi 0,iN qi 3,sL (some ⟨w.heap.size+1,0,none⟩) 1 1,iN qi 1,iN qi 2,sL (some ⟨w.heap.size+1+1+1,0,none⟩) 2 2] 79 (0,0))/\
      W.heap[w.heap.size+1+1+1+1+1+1+1]? =some (cL #[iN qi 1,iN qi 2,iN qi 1,iN qi 1] 33 (0,0))/\
      W.heap[w.heap.size+1+1+1+1+1+1+1+1+1+1]? =some (cL #[iN qi 0,iN qi 2,iN qi 3,iN qi 3] 33 (0,0))/\
      W.heap[w.heap.size+1+1+1+1+1+1+1+1+1+1+1+1+1]? =some (cL #[iN qi 1,iN qi 1,iN qi 0,iN qi 0] 33 (0,0))/\
      W.heap[w.heap.size+1+1+1+1+1+1+1+1+1+1+1+1+1+1]? =some (cL #[iN qi 0,iN qi 1,sL (some ⟨w.heap.size+1+1+1+1+1+1+1,0,none⟩) 2 2,iN qi 1,iN qi 2,sL (some ⟨w.heap.size+1+1+1+1+1+1+1+1+1+1,0,none⟩) 2 2,iN qi 2,iN qi 3,sL (some ⟨w.heap.size+1+1+1+1+1+1+1+1+1+1+1+1+1,0,none⟩) 2 2] 68 (0,0)):=by
    subst hWd;refine⟨?_, ?_, ?_, ?_, ?_, ?_, ?_, ?_⟩<;>((repeat (refine aak (by first | (simp;done) | (simp;omega)) ?_));exact aaj _ _ _ (by first |rfl | (simp;done) | (simp;omega)))
  have s1:SlB W (some ⟨w.heap.size+1,0,none⟩) [(1,10)]:=fun i x h=>by
    match i,h with
    | 0,h=>cases h;exact⟨_,_,rfl,aA r1 rfl,aA r1 rfl⟩
  have s3:SlB W (some ⟨w.heap.size+1+1+1,0,none⟩) [(1,15),(2,5)]:=fun i x h=>by
    match i,h with
    | 0,h | 1,h=>cases h;exact⟨_,_,rfl,aA r3 rfl,aA r3 rfl⟩
  have s7:SlB W (some ⟨w.heap.size+1+1+1+1+1+1+1,0,none⟩) [(1,2),(1,1)]:=fun i x h=>by
    match i,h with
    | 0,h | 1,h=>cases h;exact⟨_,_,rfl,aA r7 rfl,aA r7 rfl⟩
  have s10:SlB W (some ⟨w.heap.size+1+1+1+1+1+1+1+1+1+1,0,none⟩) [(0,2),(3,3)]:=fun i x h=>by
    match i,h with
    | 0,h | 1,h=>cases h;exact⟨_,_,rfl,aA r10 rfl,aA r10 rfl⟩
  have s13:SlB W (some ⟨w.heap.size+1+1+1+1+1+1+1+1+1+1+1+1+1,0,none⟩) [(1,1),(0,0)]:=fun i x h=>by
    match i,h with
    | 0,h | 1,h=>cases h;exact⟨_,_,rfl,aA r13 rfl,aA r13 rfl⟩
  refine⟨⟨some ⟨w.heap.size+1+1,0,none⟩,some ⟨w.heap.size+1+1+1+1,0,none⟩,some ⟨w.heap.size+1+1+1+1+1+1+1+1+1+1+1+1+1+1,0,none⟩,4,4,3⟩,rfl,⟨fun i x h=> ?_,fun i L h=> ?_,fun i L h=> ?_,by decide,by decide,by decide,⟨by simp[exB],by simp⟩⟩,⟨fun a e=> ?_,fun a e=> ?_,fun a e=> ?_⟩,hbl⟩
  · match i,h with
    | 0,h | 1,h | 2,h | 3,h=>cases h;exact⟨_,_,rfl,aA r2 rfl⟩
  · match i,h with
    | 0,h | 1,h | 2,h=>cases h;exact⟨_,_,_,_,rfl,aA r4 rfl,aA r4 rfl,aA r4 rfl,s1,by decide⟩
    | 3,h=>cases h;exact⟨_,_,_,_,rfl,aA r4 rfl,aA r4 rfl,aA r4 rfl,s3,by decide⟩
  · match i,h with
    | 0,h=>cases h;exact⟨_,_,_,_,rfl,aA r14 rfl,aA r14 rfl,aA r14 rfl,s7,by decide⟩
    | 1,h=>cases h;exact⟨_,_,_,_,rfl,aA r14 rfl,aA r14 rfl,aA r14 rfl,s10,by decide⟩
    | 2,h=>cases h;exact⟨_,_,_,_,rfl,aA r14 rfl,aA r14 rfl,aA r14 rfl,s13,by decide⟩
  · cases e;exact⟨_,_,_,r2⟩
  · cases e;exact⟨_,_,_,r4⟩
  · cases e;exact⟨_,_,_,r14⟩
theorem c83 (V:BkV) (B:Bk) (n:Int) (w:wD) (hl:B.pairs.length<=1000000):cF tP 46 #[V.val B,iN qi n] w fun e w'=>e= rT (.bool (btw n 0 ((B.pairs.length:Int)-1)))/\bX w.heap.size w w':=by
 obtain⟨ta,la,pa,tc,lc,pc⟩:=V;go_enter Tryd.func46,Tryd.ntmps46
 go_wp2_with (go_at_call 48;refine(c69 _ _ _ _).mono ?_;rintro e w' ⟨rfl,rfl⟩)
 go_ret;exact⟨rfl,(bR _ _).alloc (nR _) _⟩
theorem Np (h:Int) (t l p:vL) (n:Int) (w:wD):cF tP 38 #[.agg #[iN qi h,t,l,p],iN qi n] w fun e w'=>e= rT (.bool (btw n 0 (RowKit.wrap64 (h-1))))/\bX w.heap.size w w':=by
 go_enter Tryd.func38,Tryd.ntmps38
 go_wp2_with (go_at_call 48;refine(c69 _ _ _ _).mono ?_;rintro e w' ⟨rfl,rfl⟩)
 go_ret;exact⟨rfl,(bR _ _).alloc (nR _) _⟩
def jR (W u u':wD):Prop:=Hid (bX W.heap.size W u')/\(∀b o,(u.cell? ⟨b,o,none⟩).isSome=true->u'.cell? ⟨b,o,none⟩=u.cell? ⟨b,o,none⟩)/\(∀b o,(u.cell? ⟨b,o,none⟩).isSome=true->u'.frozen? ⟨b,o,none⟩=u.frozen? ⟨b,o,none⟩)/\(∀b,(u.cell? ⟨b,0,none⟩).isSome=true->b<u'.heap.size)
theorem keepR {W u u':wD} (hu:bX W.heap.size W u) (hb:bX u.heap.size u u'):jR W u u':=⟨lH (hu.trans (hb.mono hu.size)),fun b o h=>by
  obtain⟨v,hv⟩:=Option.isSome_iff_exists.1 h;exact(ak hb).1 b o (wBk u _ hv),fun b o h=>by
  obtain⟨v,hv⟩:=Option.isSome_iff_exists.1 h;exact(ak hb).2 b o (wBk u _ hv),fun b h=>by
  obtain⟨v,hv⟩:=Option.isSome_iff_exists.1 h;exact Nat.lt_of_lt_of_le (wBk u _ hv) hb.size⟩
def bP (B:Bk) (n:Int):Bool:=btw n 0 (RowKit.wrap64 (B.hours-1))
noncomputable def Nq:Code:=match Tryd.f14.body with
 |some (.seq _ (.seq c _))=>c
 |_=> .skip
noncomputable def Nr:Code:=match Tryd.f14.body with
 |some (.seq _ (.seq _ (.seq _ (.seq c _))))=>c
 |_=> .skip
theorem EP {w:wD} {n:Nat} {a b c d:vL} (c0:w.cell? ⟨n,0,none⟩=some a) (c1:w.cell? ⟨n,1,none⟩=some b) (c2:w.cell? ⟨n,2,none⟩=some c) (c3:w.cell? ⟨n,3,none⟩=some d)
  (f0:w.frozen? ⟨n,0,none⟩=false) (f1:w.frozen? ⟨n,1,none⟩=false) (f2:w.frozen? ⟨n,2,none⟩=false) (f3:w.frozen? ⟨n,3,none⟩=false):dW w n a b c d:=⟨wBk w _ c0,c0,c1,c2,c3,f0,f1,f2,f3⟩
def LdP (v0:vL) (ta la pa:Option aD) (tc lc pc:Nat) (B:Bk) (xs:List Int) (xa:Option aD) (xc:Nat) (n:Int) (w W:wD) (h':Int) (ta' la' pa':Option aD) (tc' lc' pc' n1 n2 n3:Nat) (al:Int) (a:Act) (w':wD):Prop:=
 ∃b8,a=⟨#[v0,sL xa xs.length xc,iN qi n,pN (some ⟨w.heap.size,0,none⟩),ud,ud,sL none 0 0,iN qi 0,pN (some ⟨b8,0,none⟩),iN qi al,ud,ud,ud,ud,.tuple #[.agg #[iN qi h',sL ta' n1 tc',sL la' n2 lc',sL pa' n3 pc'],iN qi al],.agg #[iN qi B.hours,sL ta B.towns.length tc,sL la B.links.length lc,sL pa B.pairs.length pc],sL xa xs.length xc,.agg #[iN qi B.hours,sL ta B.towns.length tc,sL la B.links.length lc,sL pa B.pairs.length pc],iN qi n,.bool (bP B n),.tuple #[.agg #[iN qi h',sL ta' n1 tc',sL la' n2 lc',sL pa' n3 pc'],iN qi al],.agg #[iN qi h',sL ta' n1 tc',sL la' n2 lc',sL pa' n3 pc'],iN qi al,ud,ud,ud,ud,ud,ud,ud,ud,ud,ud,ud,ud,ud,ud,ud,ud,ud,ud,ud,ud,ud,ud,ud,ud,ud,ud,ud,ud,ud,ud,ud],[]⟩/\W.heap.size<=b8/\bX W.heap.size W w'/\dW w' b8 (iN qi h') (sL ta' n1 tc') (sL la' n2 lc') (sL pa' n3 pc')
theorem Ns (ta la pa:Option aD) (tc lc pc:Nat) (B:Bk) (xs:List Int) (xa:Option aD) (xc:Nat) (n:Int) (w W:wD) (v0:vL) (hs:aB w ⟨ta,la,pa,tc,lc,pc⟩ B) (hv:Vars w) (hx:SlI w xa xs) (hxl:xs.length<=1000000) (HBW:Hid (bX w.heap.size w W))
  (k0:W.cell? ⟨w.heap.size,0,none⟩=some (iN qi B.hours)) (k1:W.cell? ⟨w.heap.size,1,none⟩=some (sL ta B.towns.length tc)) (k2:W.cell? ⟨w.heap.size,2,none⟩=some (sL la B.links.length lc)) (k3:W.cell? ⟨w.heap.size,3,none⟩=some (sL pa B.pairs.length pc))
  (h':Int) (ta' la' pa':Option aD) (tc' lc' pc' n1 n2 n3:Nat) (al:Int) (hres:bU ⟨ta,la,pa,tc,lc,pc⟩ B (aH B xs (bP B n))= .tuple #[.agg #[iN qi h',sL ta' n1 tc',sL la' n2 lc',sL pa' n3 pc'],iN qi al]):
  Nq.wp tP (Exit.then (LdP v0 ta la pa tc lc pc B xs xa xc n w W h' ta' la' pa' tc' lc' pc' n1 n2 n3 al) Gone) ⟨#[v0,sL xa xs.length xc,iN qi n,pN (some ⟨w.heap.size,0,none⟩),ud,ud,sL none 0 0,iN qi 0,ud,ud,ud,ud,ud,ud,ud,ud,ud,ud,ud,ud,ud,ud,ud,ud,ud,ud,ud,ud,ud,ud,ud,ud,ud,ud,ud,ud,ud,ud,ud,ud,ud,ud,ud,ud,ud,ud,ud,ud,ud,ud,ud,ud,ud,ud],[]⟩ W:=by
 have Hs:=lH hs;have Hv:=lH hv;have Hx:=lH hx;have HC:Hid (∀u,bX W.heap.size W u->bX W.heap.size W u/\u.cell? ⟨w.heap.size,0,none⟩=some (iN qi B.hours)/\u.cell? ⟨w.heap.size,1,none⟩=some (sL ta B.towns.length tc)/\u.cell? ⟨w.heap.size,2,none⟩=some (sL la B.links.length lc)/\u.cell? ⟨w.heap.size,3,none⟩=some (sL pa B.pairs.length pc)):=lH fun u h=>
  ⟨h,aoF h k0 (nR _),aoF h k1 (nR _),aoF h k2 (nR _),aoF h k3 (nR _)⟩
 have HA:Hid (∀u,bX W.heap.size W u->cF tP 38 #[.agg #[iN qi B.hours,sL ta B.towns.length tc,sL la B.links.length lc,sL pa B.pairs.length pc],iN qi n] u fun e u'=>e= rT (.bool (bP B n))/\jR W u u'):=lH fun u hu=>(Np B.hours _ _ _ n u).mono fun e u' h=>⟨h.1,keepR hu h.2⟩;have HB:Hid (∀u,bX W.heap.size W u->cF tP 37 #[.agg #[iN qi B.hours,sL ta B.towns.length tc,sL la B.links.length lc,sL pa B.pairs.length pc],sL xa xs.length xc,.bool (bP B n)] u fun e u'=>e= rT (.tuple #[.agg #[iN qi h',sL ta' n1 tc',sL la' n2 lc',sL pa' n3 pc'],iN qi al])/\jR W u u'):=lH fun u hu=>by
  have hwu:=HBW.out.trans (hu.mono HBW.out.size);refine(c55 ⟨ta,la,pa,tc,lc,pc⟩ B xs xa xc (bP B n) u (Hs.out.below hwu (nR _)) (Hv.out.v2.below hwu (nR _)) (Hx.out.below hwu (nR _)) hxl).mono ?_;rintro e u' ⟨rfl,hb⟩;exact⟨by rw[hres],keepR hu hb⟩
 clear hres hs hv hx;have HD:Hid (bX W.heap.size W W.drew):=lH (bR _ _).drew;have HDA:Hid (∀o,bX W.heap.size W ((W.alloc o).drew)):=lH fun o=>(bM (bR _ _)).drew;simp only[Nq,Tryd.f14]
 go_region_held3 (fun w'=>bX W.heap.size W w'/\w'.cell? ⟨w.heap.size,0,none⟩=some (iN qi B.hours)/\w'.cell? ⟨w.heap.size,1,none⟩=some (sL ta B.towns.length tc)/\w'.cell? ⟨w.heap.size,2,none⟩=some (sL la B.links.length lc)/\w'.cell? ⟨w.heap.size,3,none⟩=some (sL pa B.pairs.length pc))
  (first
   |exact HC.out _ HD.out
   |exact HC.out _ hbw.out
   |exact HC.out _ hbv.out
   |exact HC.out _ (HDA.out _)
   | (refine HC.out _ ?_;go_split_ands;refine bM ?_;assumption)
   | (refine HC.out _ ?_;go_split_ands;refine Below.setCell (Below.setCell (Below.setCell (Below.setCell ?_ ?_ _) ?_ _) ?_ _) ?_ _<;>first |assumption | (simp<;>omega)))
  (first
   | (go_simp;go_at_call 38;go_split_ands;(with_reducible refine(HA.out _ ?_).mono ?_);assumption;rintro e w1 ⟨rfl,hbw,hc1,hf1,hl1⟩;have hzw:=hbw.out.size)
   | (go_simp;go_at_call 37;go_split_ands;(with_reducible refine(HB.out _ ?_).mono ?_);assumption;rintro e w2 ⟨rfl,hbv,hc2,hf2,hl2⟩;have hzv:=hbv.out.size))
 all_goals
  go_split_ands;refine⟨_,rfl, ?_, ?_,EP ?_ ?_ ?_ ?_ ?_ ?_ ?_ ?_⟩
  ·first
    |exact nR _
    |assumption
  ·with_reducible assumption
  all_goals first
   | (go_simp;done)
   | (go_simp;refine World.cell?_setCell_same' _ _ _ ?_;go_simp;done)
theorem Nu (most:Bool) (V:BkV) (B:Bk) (hB:B.Fine) (h:Nat) (tb tofs tcap:Nat) (T:Nat->Int) (W u:wD) (hu:bX W.heap.size W u) (hat:bT W V B) (hT:bK W tb tofs B.links.length T) (hh:(h:Int)<B.hours):
  cF tP 39 #[.agg #[iN qi B.hours,sL V.ta B.towns.length V.tc,sL V.la B.links.length V.lc,sL V.pa B.pairs.length V.pc],iN qi (h:Int),sL (some ⟨tb,tofs,none⟩) B.links.length tcap,.agg #[.func (.func (vK most)) #[] #[]]] u fun e u'=>e= rT (ldv (B.inn T most h))/\jR W u u':=
 (c57 most V B hB h tb tofs tcap T u (hat.below hu (nR _)) (hT.below hu (nR _)) hh).mono fun _ _ k=>⟨k.1,keepR hu k.2⟩
theorem qX {p q:Prop} (h:p) (k:p->q):q:=k h
theorem qY {p q r:Prop} (h:p) (k:q->r):(p->q)->r:=fun f=>k (f h)
def Six (w:wD) (b:Nat) (f:Nat->Int):Prop:= ∀j,j<6->w.cell? ⟨b,j,none⟩=some (iN qi (f j))
theorem Nv {w:wD} {b:Nat} {f:Nat->Int} (c0:w.cell? ⟨b,0,none⟩=some (iN qi (f 0))) (c1:w.cell? ⟨b,1,none⟩=some (iN qi (f 1))) (c2:w.cell? ⟨b,2,none⟩=some (iN qi (f 2))) (c3:w.cell? ⟨b,3,none⟩=some (iN qi (f 3))) (c4:w.cell? ⟨b,4,none⟩=some (iN qi (f 4))) (c5:w.cell? ⟨b,5,none⟩=some (iN qi (f 5))):Six w b f:=fun j hj=>by
 match j,hj with
 | 0,_=>exact c0
 | 1,_=>exact c1
 | 2,_=>exact c2
 | 3,_=>exact c3
 | 4,_=>exact c4
 | 5,_=>exact c5
def LdQ (V:BkV) (B:Bk) (h tb tofs tcap b8:Nat) (T:Nat->Int) (W:wD) (t0 t3 t4 t5 t6 t7 t9 t14 t15 t16 t17 t18 t19 t20 t21 t22 t23 t24 t25:vL) (a:Act) (w':wD):Prop:=
 ∃b10 b11,a=⟨#[t0,sL (some ⟨tb,tofs,none⟩) B.links.length tcap,iN qi (h:Int),t3,t4,t5,t6,t7,pN (some ⟨b8,0,none⟩),t9,pN (some ⟨b10,0,none⟩),pN (some ⟨b11,0,none⟩),ud,ud,t14,t15,t16,t17,t18,t19,t20,t21,t22,t23,t24,t25,.agg #[iN qi B.hours,sL V.ta B.towns.length V.tc,sL V.la B.links.length V.lc,sL V.pa B.pairs.length V.pc],iN qi (h:Int),sL (some ⟨tb,tofs,none⟩) B.links.length tcap,.agg #[.func (.func 116) #[] #[]],ldv (B.inn T false h),.agg #[iN qi B.hours,sL V.ta B.towns.length V.tc,sL V.la B.links.length V.lc,sL V.pa B.pairs.length V.pc],iN qi (h:Int),sL (some ⟨tb,tofs,none⟩) B.links.length tcap,.agg #[.func (.func 117) #[] #[]],ldv (B.inn T true h),ud,ud,ud,ud,ud,ud,ud,ud,ud,ud,ud,ud,ud,ud,ud,ud,ud,ud],[]⟩/\bX W.heap.size W w'/\Six w' b10 (B.inn T false h)/\Six w' b11 (B.inn T true h)
theorem aal (V:BkV) (B:Bk) (hB:B.Fine) (h:Nat) (tb tofs tcap b8:Nat) (T:Nat->Int) (W:wD) (hat:bT W V B) (hT:bK W tb tofs B.links.length T) (hh:(h:Int)<B.hours)
  (t0 t3 t4 t5 t6 t7 t9 t14 t15 t16 t17 t18 t19 t20 t21 t22 t23 t24 t25:vL)
  (k0:W.cell? ⟨b8,0,none⟩=some (iN qi B.hours)) (k1:W.cell? ⟨b8,1,none⟩=some (sL V.ta B.towns.length V.tc)) (k2:W.cell? ⟨b8,2,none⟩=some (sL V.la B.links.length V.lc)) (k3:W.cell? ⟨b8,3,none⟩=some (sL V.pa B.pairs.length V.pc))
  (g0:W.cell? ⟨0,0,none⟩=some (.func (.func 116) #[] #[])) (g1:W.cell? ⟨1,0,none⟩=some (.func (.func 117) #[] #[])):
  Nr.wp tP (Exit.then (LdQ V B h tb tofs tcap b8 T W t0 t3 t4 t5 t6 t7 t9 t14 t15 t16 t17 t18 t19 t20 t21 t22 t23 t24 t25) Gone) ⟨#[t0,sL (some ⟨tb,tofs,none⟩) B.links.length tcap,iN qi (h:Int),t3,t4,t5,t6,t7,pN (some ⟨b8,0,none⟩),t9,ud,ud,ud,ud,t14,t15,t16,t17,t18,t19,t20,t21,t22,t23,t24,t25,ud,ud,ud,ud,ud,ud,ud,ud,ud,ud,ud,ud,ud,ud,ud,ud,ud,ud,ud,ud,ud,ud,ud,ud,ud,ud,ud,ud],[]⟩ W:=by
 have HC:Hid (∀u,bX W.heap.size W u->bX W.heap.size W u/\u.cell? ⟨b8,0,none⟩=some (iN qi B.hours)/\u.cell? ⟨b8,1,none⟩=some (sL V.ta B.towns.length V.tc)/\u.cell? ⟨b8,2,none⟩=some (sL V.la B.links.length V.lc)/\u.cell? ⟨b8,3,none⟩=some (sL V.pa B.pairs.length V.pc)/\u.cell? ⟨0,0,none⟩=some (.func (.func 116) #[] #[])/\u.cell? ⟨1,0,none⟩=some (.func (.func 117) #[] #[])):=lH fun u h=>
  ⟨h,aoF h k0 (nR _),aoF h k1 (nR _),aoF h k2 (nR _),aoF h k3 (nR _),aoF h g0 (nR _),aoF h g1 (nR _)⟩
 have HA:Hid (∀u,bX W.heap.size W u->cF tP 39 #[.agg #[iN qi B.hours,sL V.ta B.towns.length V.tc,sL V.la B.links.length V.lc,sL V.pa B.pairs.length V.pc],iN qi (h:Int),sL (some ⟨tb,tofs,none⟩) B.links.length tcap,.agg #[.func (.func 116) #[] #[]]] u fun e u'=>e= rT (ldv (B.inn T false h))/\jR W u u'):=lH fun u hu=>Nu false V B hB h tb tofs tcap T W u hu hat hT hh;have HB:Hid (∀u,bX W.heap.size W u->cF tP 39 #[.agg #[iN qi B.hours,sL V.ta B.towns.length V.tc,sL V.la B.links.length V.lc,sL V.pa B.pairs.length V.pc],iN qi (h:Int),sL (some ⟨tb,tofs,none⟩) B.links.length tcap,.agg #[.func (.func 117) #[] #[]]] u fun e u'=>e= rT (ldv (B.inn T true h))/\jR W u u'):=lH fun u hu=>Nu true V B hB h tb tofs tcap T W u hu hat hT hh;clear hat hT hh;unfold LdQ;generalize B.inn T false h=lf at *;generalize B.inn T true h=lm at *;have HD:Hid (bX W.heap.size W W.drew):=lH (bR _ _).drew;have HDA:Hid (∀o,bX W.heap.size W ((W.alloc o).drew)):=lH fun o=>(bM (bR _ _)).drew;have HDB:Hid (∀o o',bX W.heap.size W (((W.alloc o).alloc o').drew)):=lH fun o o'=>(bM (bM (bR _ _))).drew;simp only[Nr,Tryd.f14]
 go_region_held3 (fun w'=>bX W.heap.size W w'/\w'.cell? ⟨b8,0,none⟩=some (iN qi B.hours)/\w'.cell? ⟨b8,1,none⟩=some (sL V.ta B.towns.length V.tc)/\w'.cell? ⟨b8,2,none⟩=some (sL V.la B.links.length V.lc)/\w'.cell? ⟨b8,3,none⟩=some (sL V.pa B.pairs.length V.pc)/\w'.cell? ⟨0,0,none⟩=some (.func (.func 116) #[] #[])/\w'.cell? ⟨1,0,none⟩=some (.func (.func 117) #[] #[]))
  ((refine HC.out _ ?_;go_split_ands;repeat (first |with_reducible assumption |with_reducible exact bR _ _ |with_reducible refine bM ?_ |with_reducible refine Below.drew ?_ |with_reducible refine Below.setCell ?_ ?_ _ | (focus (simp;done)) | (focus (simp;omega)) | (focus omega))))
  (first
   | (go_simp;go_at_call 39;go_split_ands;(with_reducible refine(HA.out _ ?_).mono ?_);(with_reducible assumption);rintro e w1 ⟨rfl,hbw,hc1,hf1,hl1⟩;have hzw:=hbw.out.size;have hbw':=hbw.out;(try (refine qX (hl1 (W.heap.size)) ?_;refine qY ?_ ?_;(focus (go_simp;done));intro qa0));(try (refine qX (hl1 (W.heap.size+1)) ?_;refine qY ?_ ?_;(focus (go_simp;done));intro qa1)))
   | (go_simp;go_at_call 39;go_split_ands;(with_reducible refine(HB.out _ ?_).mono ?_);(with_reducible assumption);rintro e w2 ⟨rfl,hbv,hc2,hf2,hl2⟩;have hzv:=hbv.out.size;have hbv':=hbv.out;(try (refine qX (hl2 (W.heap.size)) ?_;refine qY ?_ ?_;(focus (go_simp;done));intro qb0));(try (refine qX (hl2 (W.heap.size+1)) ?_;refine qY ?_ ?_;(focus (go_simp;done));intro qb1));(try (refine qX (hl2 (w1.heap.size)) ?_;refine qY ?_ ?_;(focus (go_simp;done));intro qb2));(try (refine qX (hl2 (w1.heap.size+1)) ?_;refine qY ?_ ?_;(focus (go_simp;done));intro qb3))))
 all_goals
  go_split_ands;refine⟨_,_,rfl, ?_,Nv ?_ ?_ ?_ ?_ ?_ ?_,Nv ?_ ?_ ?_ ?_ ?_ ?_⟩
  ·with_reducible assumption
  all_goals first
   | (go_simp;done)
   | (go_simp;refine World.cell?_setCell_same' _ _ _ ?_;go_simp;done)
structure qZ where
 tb:Nat
 lb:Nat
 pb:Nat
 sb:Nat->Nat
 cb:Nat->Nat
structure bI (w:wD) (n:Nat) (V:BkV) (B:Bk) (O:qZ):Prop where
 ta:V.ta=some ⟨O.tb,0,none⟩
 la:V.la=some ⟨O.lb,0,none⟩
 pa: ∀(i:Nat) (p:Pr),B.pairs[i]? =some p->V.pa=some ⟨O.pb,0,none⟩
 pc:V.pa=none->V.pc=0
 rp:bG w V.pa
 tc:B.towns.length<=V.tc/\V.tc<=maxLen
 towns: ∀(i:Nat) (t:ByteArray),B.towns[i]? =some t->w.cell? ⟨O.tb,i,none⟩=some (.string t)
 links: ∀(i:Nat) (L:Lnk),B.links[i]? =some L->w.cell? ⟨O.lb,i*3,none⟩=some (iN qi L.one)/\w.cell? ⟨O.lb,i*3+1,none⟩=some (iN qi L.two)/\ ∃sc,w.cell? ⟨O.lb,i*3+2,none⟩=some (sL (some ⟨O.sb i,0,none⟩) L.steps.length sc)
 steps: ∀(i:Nat) (L:Lnk) (k:Nat) (s:Int×Int),B.links[i]? =some L->L.steps[k]? =some s->w.cell? ⟨O.sb i,k*2,none⟩=some (iN qi s.1)/\w.cell? ⟨O.sb i,k*2+1,none⟩=some (iN qi s.2)
 pairs: ∀(i:Nat) (p:Pr),B.pairs[i]? =some p->w.cell? ⟨O.pb,i*3,none⟩=some (iN qi p.one)/\w.cell? ⟨O.pb,i*3+1,none⟩=some (iN qi p.two)/\ ∃sc,w.cell? ⟨O.pb,i*3+2,none⟩=some (sL (some ⟨O.cb i,0,none⟩) p.calls.length sc)
 calls: ∀(i:Nat) (p:Pr) (k:Nat) (x:Int×Int),B.pairs[i]? =some p->p.calls[k]? =some x->w.cell? ⟨O.cb i,k*2,none⟩=some (iN qi x.1)/\w.cell? ⟨O.cb i,k*2+1,none⟩=some (iN qi x.2)
 free: ∀(i:Nat) (p:Pr),B.pairs[i]? =some p->(O.cb i<w.heap.size/\n<=O.cb i)/\ ∀j,w.frozen? ⟨O.cb i,j,none⟩=false
 dis: ∀(i:Nat) (p:Pr),B.pairs[i]? =some p->O.cb i≠O.tb/\O.cb i≠O.lb/\O.cb i≠O.pb/\(∀(j:Nat) (L:Lnk),B.links[j]? =some L->O.cb i≠O.sb j)/\(∀(j:Nat) (q:Pr),B.pairs[j]? =some q->j≠i->O.cb j≠O.cb i)
 lo:n<=O.tb/\n<=O.lb/\n<=O.pb/\ ∀(i:Nat) (L:Lnk),B.links[i]? =some L->n<=O.sb i
structure Small (B:Bk):Prop where
 nt:B.towns.length<=1000000
 nl:B.links.length<=1000000
 np:B.pairs.length<=1000000
 st: ∀(i:Nat) (L:Lnk),B.links[i]? =some L->L.steps.length<=1000000
 cl: ∀(i:Nat) (p:Pr),B.pairs[i]? =some p->p.calls.length<=1000000
theorem bI.inn {w:wD} {n:Nat} {V:BkV} {B:Bk} {O:qZ} (h:bI w n V B O) (s:Small B):aB w V B:=by
 refine⟨fun i t ht=>⟨O.tb,0,h.ta,by rw[Nat.zero_add];exact h.towns i t ht⟩,fun i L hL=> ?_,fun i p hp=> ?_,s.nt,s.nl,s.np,⟨h.tc.1,h.tc.2⟩⟩
 ·obtain⟨h0,h1,sc,h2⟩:=h.links i L hL;refine⟨O.lb,0,some ⟨O.sb i,0,none⟩,sc,h.la,by rw[Nat.zero_add];exact h0,by rw[Nat.zero_add];exact h1,by rw[Nat.zero_add];exact h2,fun k x hx=> ?_,s.st i L hL⟩;obtain⟨g0,g1⟩:=h.steps i L k x hL hx;exact⟨O.sb i,0,rfl,by rw[Nat.zero_add];exact g0,by rw[Nat.zero_add];exact g1⟩
 ·obtain⟨h0,h1,sc,h2⟩:=h.pairs i p hp;refine⟨O.pb,0,some ⟨O.cb i,0,none⟩,sc,h.pa i p hp,by rw[Nat.zero_add];exact h0,by rw[Nat.zero_add];exact h1,by rw[Nat.zero_add];exact h2,fun k x hx=> ?_,s.cl i p hp⟩;obtain⟨g0,g1⟩:=h.calls i p k x hp hx;exact⟨O.cb i,0,rfl,by rw[Nat.zero_add];exact g0,by rw[Nat.zero_add];exact g1⟩
theorem nS {w w':wD} {a:Option aD} (h:bG w a) (hb:bX w.heap.size w w'):bG w' a:=fun ad e=>by
 obtain⟨c,t,z,h1⟩:=h ad e;exact⟨c,t,z,by rw[hb.block _ (aS.1 h1).1];exact h1⟩
theorem bI.below {w w':wD} {n:Nat} {V:BkV} {B:Bk} {O:qZ} (h:bI w n V B O) (hb:bX w.heap.size w w'):bI w' n V B O:=by
 have c: ∀{b o:Nat} {v:vL},w.cell? ⟨b,o,none⟩=some v->w'.cell? ⟨b,o,none⟩=some v:=fun h=>aoF hb h (nR _);refine⟨h.ta,h.la,h.pa,h.pc,nS h.rp hb,h.tc,fun i t ht=>c (h.towns i t ht),fun i L hL=> ?_,fun i L k s hL hs=> ?_,fun i p hp=> ?_,fun i p k x hp hx=> ?_,fun i p hp=> ?_,h.dis,h.lo⟩
 ·obtain⟨h0,h1,sc,h2⟩:=h.links i L hL;exact⟨c h0,c h1,sc,c h2⟩
 ·exact⟨c (h.steps i L k s hL hs).1,c (h.steps i L k s hL hs).2⟩
 ·obtain⟨h0,h1,sc,h2⟩:=h.pairs i p hp;exact⟨c h0,c h1,sc,c h2⟩
 ·exact⟨c (h.calls i p k x hp hx).1,c (h.calls i p k x hp hx).2⟩
 ·have:=h.free i p hp;exact⟨⟨Nat.lt_of_lt_of_le this.1.1 hb.size,this.1.2⟩,fun j=>by rw[(ak hb).2 _ _ this.1.1];exact this.2 j⟩
def fD (B:Bk) (i k:Nat) (x:Int×Int):Bk:={B with pairs:=B.pairs.modify i fun p=>{p with calls:=p.calls.set k x}}
theorem mO {B:Bk} {i k:Nat} {x:Int×Int} {j:Nat} {q:Pr} (h:(fD B i k x).pairs[j]? =some q): ∃p,B.pairs[j]? =some p/\q.one=p.one/\q.two=p.two/\q.calls.length=p.calls.length/\ ∀m,q.calls[m]? =if j=i/\m=k/\m<p.calls.length then some x else p.calls[m]? :=by
 unfold fD at h;simp only[List.getElem?_modify] at h
 cases hp:B.pairs[j]? with
 |none=>rw[hp] at h;simp at h
 |some p=>
  rw[hp] at h;refine⟨p,rfl, ?_⟩;by_cases e:i=j
  ·subst e;simp only[if_pos,Option.map_some,oI,Option.map_eq_map] at h;subst h;refine⟨rfl,rfl,by simp,fun m=> ?_⟩;simp only[List.getElem?_set,true_and];by_cases hm:k=m
   ·subst hm;by_cases hl:k<p.calls.length
    ·simp[hl]
    ·simp[hl]
   ·simp[hm,Ne.symm hm]
  ·have e': ¬j=i:=fun h=>e h.symm;simp only[if_neg e,Option.map_some,oI,Option.map_eq_map] at h;subst h;exact⟨rfl,rfl,rfl,fun m=>by simp[e']⟩
theorem bI.store {w:wD} {n:Nat} {V:BkV} {B:Bk} {O:qZ} (h:bI w n V B O) {i k:Nat} {p:Pr} (hp:B.pairs[i]? =some p) (hk:k<p.calls.length) (x:Int×Int):
  bI ((w.setCell ⟨O.cb i,k*2,none⟩ (iN qi x.1)).setCell ⟨O.cb i,k*2+1,none⟩ (iN qi x.2)) n V (fD B i k x) O:=by
 obtain⟨d0,d1,d2,d3,d4⟩:=h.dis i p hp;have far: ∀{b o:Nat} {v:vL},w.cell? ⟨b,o,none⟩=some v->O.cb i≠b->((w.setCell ⟨O.cb i,k*2,none⟩ (iN qi x.1)).setCell ⟨O.cb i,k*2+1,none⟩ (iN qi x.2)).cell? ⟨b,o,none⟩=some v:=fun h0 hne=>by
  rw[wF _ _ _ _ hne,wF _ _ _ _ hne];exact h0
 refine⟨h.ta,h.la,fun j q hq=> ?_,h.pc,fun ad e=> ?_,h.tc,fun j t ht=>far (h.towns j t ht) d0,fun j L hL=> ?_,fun j L m s hL hs=> ?_,fun j q hq=> ?_,fun j q m y hq hy=> ?_,fun j q hq=> ?_,fun j q hq=> ?_,h.lo⟩
 ·obtain⟨p',hp',_⟩:=mO hq;exact h.pa j p' hp'
 ·obtain⟨c,t,z,h1⟩:=h.rp ad e;have hne:ad.block≠O.cb i:=by
   rw[h.pa i p hp] at e
   cases e
   exact fun e=>d2 e.symm
  exact⟨c,t,z,by rw[Below.heap_setCell _ _ _ _ hne,Below.heap_setCell _ _ _ _ hne];exact h1⟩
 ·obtain⟨h0,h1,sc,h2⟩:=h.links j L hL;exact⟨far h0 d1,far h1 d1,sc,far h2 d1⟩
 ·exact⟨far (h.steps j L m s hL hs).1 (d3 j L hL),far (h.steps j L m s hL hs).2 (d3 j L hL)⟩
 ·obtain⟨p',hp',e1,e2,e3,_⟩:=mO hq;obtain⟨h0,h1,sc,h2⟩:=h.pairs j p' hp';rw[e1,e2,e3];exact⟨far h0 d2,far h1 d2,sc,far h2 d2⟩
 ·obtain⟨p',hp',e1,e2,e3,e4⟩:=mO hq;rw[e4] at hy;by_cases hj:j=i
  ·subst hj;rw[hp] at hp'
   cases hp'
   have hxk:p.calls[k]? =some p.calls[k]:=lG hk;obtain⟨c0,c1⟩:=h.calls j p k _ hp hxk;by_cases hm:m=k
   ·subst hm;rw[if_pos ⟨rfl,rfl,hk⟩] at hy
    cases hy
    constructor
    ·rw[wO _ _ _ _ (by intro e;simp only[Addr.mk.injEq] at e;omega)];exact World.cell?_setCell_same _ _ _ c0
    ·refine World.cell?_setCell_same _ _ _ (?_: _=some (iN qi p.calls[m].2));rw[wO _ _ _ _ (by intro e;simp only[Addr.mk.injEq] at e;omega)];exact c1
   ·rw[if_neg (by rintro⟨_,e,_⟩;exact hm e)] at hy;obtain⟨g0,g1⟩:=h.calls j p m y hp hy;constructor
    ·rw[wO _ _ _ _ (by intro e;simp only[Addr.mk.injEq] at e;omega),wO _ _ _ _ (by intro e;simp only[Addr.mk.injEq] at e;omega)];exact g0
    ·rw[wO _ _ _ _ (by intro e;simp only[Addr.mk.injEq] at e;omega),wO _ _ _ _ (by intro e;simp only[Addr.mk.injEq] at e;omega)];exact g1
  ·rw[if_neg (by rintro⟨e,_⟩;exact hj e)] at hy;obtain⟨g0,g1⟩:=h.calls j p' m y hp' hy;have hne:=(d4 j p' hp' hj).symm;exact⟨far g0 hne,far g1 hne⟩
 ·obtain⟨p',hp',_⟩:=mO hq;have:=h.free j p' hp';exact⟨⟨by simpa using this.1.1,this.1.2⟩,fun m=>by simp only[World.frozen?_setCell];exact this.2 m⟩
 ·obtain⟨p',hp',_⟩:=mO hq;obtain⟨f0,f1,f2,f3,f4⟩:=h.dis j p' hp';exact⟨f0,f1,f2,fun m L hL=>f3 m L hL,fun m r hr hm=>by
   obtain⟨r',hr',_⟩:=mO hr;exact f4 m r' hr' hm⟩
theorem aam {W:wD} {k:Nat} {c:Array vL} {t:TypeId} {z:Nat×Nat} (a:aD) (v:vL) (h:W.heap[k]? =some (cL c t z)): ∃c' t' z',(W.setCell a v).heap[k]? =some (cL c' t' z'):=by
 by_cases e:k=a.block
 ·subst e;obtain⟨hlt,hk'⟩:=aS.1 h
  show ∃c' t' z',(W.heap.modify a.block _)[a.block]? =some (cL c' t' z')
  rw[Array.getElem?_eq_getElem (by rw[Array.size_modify];exact hlt),Array.getElem_modify_self,hk'];exact⟨_,_,_,rfl⟩
 ·exact⟨c,t,z,(Below.heap_setCell W a v k e).trans h⟩
theorem jm {W:wD} {ad:Option aD} (a:aD) (v:vL) (h:bG W ad):bG (W.setCell a v) ad:=fun x e=>by
 obtain⟨c,t,z,h1⟩:=h x e;exact aam a v h1
theorem bI.far {w:wD} {n:Nat} {V:BkV} {B:Bk} {O:qZ} (h:bI w n V B O) {b o:Nat} (v:vL) (hb:b<n):bI (w.setCell ⟨b,o,none⟩ v) n V B O:=by
 obtain⟨lt,ll,lp,ls⟩:=h.lo;have far: ∀{d o':Nat} {u:vL},w.cell? ⟨d,o',none⟩=some u->n<=d->(w.setCell ⟨b,o,none⟩ v).cell? ⟨d,o',none⟩=some u:=fun {d o' u} h0 hd=>by
  have hne:b≠d:=by omega
  rw[wF _ _ _ _ hne];exact h0
 refine⟨h.ta,h.la,h.pa,h.pc,jm _ _ h.rp,h.tc,fun i t ht=>far (h.towns i t ht) lt,fun i L hL=> ?_,fun i L k s hL hs=> ?_,fun i p hp=> ?_,fun i p k x hp hx=> ?_,fun i p hp=> ?_,h.dis,h.lo⟩
 ·obtain⟨h0,h1,sc,h2⟩:=h.links i L hL;exact⟨far h0 ll,far h1 ll,sc,far h2 ll⟩
 ·exact⟨far (h.steps i L k s hL hs).1 (ls i L hL),far (h.steps i L k s hL hs).2 (ls i L hL)⟩
 ·obtain⟨h0,h1,sc,h2⟩:=h.pairs i p hp;exact⟨far h0 lp,far h1 lp,sc,far h2 lp⟩
 ·have hf:=(h.free i p hp).1.2;exact⟨far (h.calls i p k x hp hx).1 hf,far (h.calls i p k x hp hx).2 hf⟩
 ·have:=h.free i p hp;exact⟨⟨by simpa using this.1.1,this.1.2⟩,fun j=>by rw[World.frozen?_setCell];exact this.2 j⟩
theorem ru {w:wD} {n m s:Nat} {e:TypeId} {v:vL} {news:List vL} (h:w.ownsRow n e s v m news) (h1:1<=m):
  ∃g cap,v= sL (some ⟨g,0,none⟩) m cap/\n<=g/\g<w.heap.size/\(∀(j:Nat) (u:vL),news[j]? =some u->w.cell? ⟨g,j,none⟩=some u)/\(∀j,w.frozen? ⟨g,j,none⟩=false)/\m<=cap/\cap<=maxLen:=by
 obtain⟨hl,⟨_,h0⟩ |⟨b,cap,cur,rfl,hb,hrow,hc1,hc2,hs,ht⟩⟩:=h
 ·omega
 ·refine⟨b,cap,rfl,hb,(aS.1 hrow).1,fun j u hu=> ?_,fun j=>by simp[World.frozen?,hrow],hc1,hc2⟩;have hjl:=(List.getElem?_eq_some_iff.1 hu).1;have e:cur[j]? =some u:=by
   rw[<-ht,List.getElem?_take,if_pos (by omega)] at hu;simpa using hu
  simp[World.cell?,hrow,e]
theorem aan {w:wD} {n m s:Nat} {e:TypeId} {a:Option aD} {c:Nat} {news:List vL} (h:w.ownsRow n e s (sL a m c) m news):bG w a/\(a=none->c=0):=by
 obtain⟨hl,⟨e1,h0⟩ |⟨b,cap,cur,e1,hb,hrow,_⟩⟩:=h
 ·cases e1
  exact⟨fun ad e=>(by cases e),fun _=>rfl⟩
 ·cases e1
  exact⟨fun ad e=>(by cases e;exact⟨_,_,_,hrow⟩),fun e=>(by cases e)⟩
def tri:List (Int×Int×vL)->List vL
 | []=> []
 |x::l=> iN qi x.1:: iN qi x.2.1::x.2.2::tri l
theorem ES: ∀l,(tri l).length=l.length*3
 | []=>rfl
 |x::l=>by simp[tri,ES l];omega
theorem ET: ∀(l:List (Int×Int×vL)) (i:Nat) (x:Int×Int×vL),l[i]? =some x->(tri l)[i*3]? =some (iN qi x.1)/\(tri l)[i*3+1]? =some (iN qi x.2.1)/\(tri l)[i*3+2]? =some x.2.2
 | [],i,x,h=>by simp at h
 |y::l,0,x,h=>by
  simp only[List.getElem?_cons_zero,oI] at h;subst h;simp[tri]
 |y::l,i+1,x,h=>by
  have:=ET l i x (by simpa using h);have e0:(i+1)*3=i*3+1+1+1:=by omega
  simp only[tri,e0,List.getElem?_cons_succ];exact this
theorem EU: ∀(l:List (Int×Int×vL)) (j:Nat) (u:vL),(tri l)[j]? =some u-> ∃i x,l[i]? =some x/\((j=i*3/\u= iN qi x.1)\/(j=i*3+1/\u= iN qi x.2.1)\/(j=i*3+2/\u=x.2.2))
 | [],j,u,h=>by simp[tri] at h
 |y::l,0,u,h=>by simp[tri] at h;exact⟨0,y,rfl,.inl ⟨rfl,h.symm⟩⟩
 |y::l,1,u,h=>by simp[tri] at h;exact⟨0,y,rfl,.inr (.inl ⟨rfl,h.symm⟩)⟩
 |y::l,2,u,h=>by simp[tri] at h;exact⟨0,y,rfl,.inr (.inr ⟨rfl,h.symm⟩)⟩
 |y::l,j+3,u,h=>by
  simp only[tri,List.getElem?_cons_succ] at h;obtain⟨i,x,hi,hh⟩:=EU l j u h;refine⟨i+1,x,by simpa using hi, ?_⟩
  rcases hh with ⟨e,h⟩ |⟨e,h⟩ |⟨e,h⟩
  ·exact .inl ⟨by omega,h⟩
  ·exact .inr (.inl ⟨by omega,h⟩)
  ·exact .inr (.inr ⟨by omega,h⟩)
def duo:List (Int×Int)->List vL
 | []=> []
 |x::l=> iN qi x.1:: iN qi x.2::duo l
theorem EW: ∀l,(duo l).length=l.length*2
 | []=>rfl
 |x::l=>by simp[duo,EW l];omega
theorem oV: ∀(l:List (Int×Int)) (i:Nat) (x:Int×Int),l[i]? =some x->(duo l)[i*2]? =some (iN qi x.1)/\(duo l)[i*2+1]? =some (iN qi x.2)
 | [],i,x,h=>by simp at h
 |y::l,0,x,h=>by
  simp only[List.getElem?_cons_zero,oI] at h;subst h;simp[duo]
 |y::l,i+1,x,h=>by
  have:=oV l i x (by simpa using h);have e0:(i+1)*2=i*2+1+1:=by omega
  simp only[duo,e0,List.getElem?_cons_succ];exact this
theorem Nw: ∀(l:List (Int×Int)) (j:Nat) (u:vL),(duo l)[j]? =some u-> ∃i x,l[i]? =some x/\((j=i*2/\u= iN qi x.1)\/(j=i*2+1/\u= iN qi x.2))
 | [],j,u,h=>by simp[duo] at h
 |y::l,0,u,h=>by simp[duo] at h;exact⟨0,y,rfl,.inl ⟨rfl,h.symm⟩⟩
 |y::l,1,u,h=>by simp[duo] at h;exact⟨0,y,rfl,.inr ⟨rfl,h.symm⟩⟩
 |y::l,j+2,u,h=>by
  simp only[duo,List.getElem?_cons_succ] at h;obtain⟨i,x,hi,hh⟩:=Nw l j u h;refine⟨i+1,x,by simpa using hi, ?_⟩
  rcases hh with ⟨e,h⟩ |⟨e,h⟩
  ·exact .inl ⟨by omega,h⟩
  ·exact .inr ⟨by omega,h⟩
theorem EX: ∀(l:List (Int×Int)),∀u∈duo l,u.oneCell'=true
 | [],u,h=>by cases h
 |x::l,u,h=>by
  simp only[duo,List.mem_cons] at h
  rcases h with rfl |rfl |h
  ·rfl
  ·rfl
  ·exact EX l u h
theorem EY: ∀(l:List (Int×Int×vL)),(∀x∈l,x.2.2.oneCell'=true)-> ∀u∈tri l,u.oneCell'=true
 | [],_,u,h=>by cases h
 |x::l,hl,u,h=>by
  simp only[tri,List.mem_cons] at h
  rcases h with rfl |rfl |rfl |h
  ·rfl
  ·rfl
  ·exact hl x (by simp)
  ·exact EY l (fun y hy=>hl y (by simp[hy])) u h
theorem BH (b o j:Nat):(⟨b,o,none⟩:aD).add j=⟨b,o+j,none⟩:=by
 by_cases h:j=0
 ·subst h;simp[Addr.add]
 ·simp[Addr.add,h]
theorem Ny {w:wD} {sa:Option aD} {l:List (Int×Int)} (h:SlB w sa l): ∀ad,sa=some ad-> ∀(j:Nat) (u:vL),(duo l)[j]? =some u->w.cell? (ad.add j)=some u:=fun ad e j u hu=>by
 obtain⟨i,x,hi,hh⟩:=Nw l j u hu;obtain⟨b,o,e2,h0,h1⟩:=h i x hi;rw[e] at e2
 cases e2
 rw[BH]
 rcases hh with ⟨rfl,rfl⟩ |⟨rfl,rfl⟩
 ·exact h0
 ·rw[<-Nat.add_assoc];exact h1
theorem aao (l:List (Int×Int)) (sa:Option aD) (sc:Nat) (w:wD) (h:SlB w sa l) (h1:1<=l.length) (h2:l.length<=1000000):
  cF tP 92 #[sL sa l.length sc] w fun e w'=> ∃g cap,e= rT (sL (some ⟨g,0,none⟩) l.length cap)/\w.heap.size<=g/\g<w'.heap.size/\(∀(k:Nat) (x:Int×Int),l[k]? =some x->w'.cell? ⟨g,k*2,none⟩=some (iN qi x.1)/\w'.cell? ⟨g,k*2+1,none⟩=some (iN qi x.2))/\(∀j,w'.frozen? ⟨g,j,none⟩=false)/\bX w.heap.size w w':=by
 refine(Zu (duo l) l.length sa sc w (EW l) h2 (fun e=> ?_) (Ny h) (EX l)).mono ?_
 ·obtain⟨b,o,e2,_⟩:=h 0 _ (lG (by omega));rw[e] at e2;cases e2
 ·rintro e w' ⟨v,rfl,hown,hb⟩;obtain⟨g,cap,rfl,g1,g2,g3,g4,g5,g6⟩:=ru hown h1;exact⟨g,cap,rfl,g1,g2,fun k x hx=>⟨g3 _ _ (oV l k x hx).1,g3 _ _ (oV l k x hx).2⟩,g4,hb⟩
theorem aap (l:List (Int×Int)) (sa:Option aD) (sc:Nat) (w:wD) (h:SlB w sa l) (h1:1<=l.length) (h2:l.length<=1000000):
  cF tP 93 #[sL sa l.length sc] w fun e w'=> ∃g cap,e= rT (sL (some ⟨g,0,none⟩) l.length cap)/\w.heap.size<=g/\g<w'.heap.size/\(∀(k:Nat) (x:Int×Int),l[k]? =some x->w'.cell? ⟨g,k*2,none⟩=some (iN qi x.1)/\w'.cell? ⟨g,k*2+1,none⟩=some (iN qi x.2))/\(∀j,w'.frozen? ⟨g,j,none⟩=false)/\bX w.heap.size w w':=by
 refine(Zv (duo l) l.length sa sc w (EW l) h2 (fun e=> ?_) (Ny h) (EX l)).mono ?_
 ·obtain⟨b,o,e2,_⟩:=h 0 _ (lG (by omega));rw[e] at e2;cases e2
 ·rintro e w' ⟨v,rfl,hown,hb⟩;obtain⟨g,cap,rfl,g1,g2,g3,g4,g5,g6⟩:=ru hown h1;exact⟨g,cap,rfl,g1,g2,fun k x hx=>⟨g3 _ _ (oV l k x hx).1,g3 _ _ (oV l k x hx).2⟩,g4,hb⟩
theorem aaq (l:List ByteArray) (sa:Option aD) (sc:Nat) (w:wD) (h:SlS w sa l) (h1:1<=l.length) (h2:l.length<=1000000):
  cF tP 89 #[sL sa l.length sc] w fun e w'=> ∃g cap,e= rT (sL (some ⟨g,0,none⟩) l.length cap)/\(w.heap.size<=g/\g<w'.heap.size/\(∀(k:Nat) (x:ByteArray),l[k]? =some x->w'.cell? ⟨g,k,none⟩=some (.string x))/\l.length<=cap/\cap<=maxLen)/\bX w.heap.size w w':=by
 refine(Zn (l.map .string) l.length sa sc w (by simp) h2 (fun e=> ?_) (fun ad e j u hu=> ?_) (fun u hu=> ?_)).mono ?_
 ·obtain⟨b,o,e2,_⟩:=h 0 _ (lG (by omega));rw[e] at e2;cases e2
 ·rw[List.getElem?_map] at hu
  cases hx:l[j]? with
  |none=>rw[hx] at hu;cases hu
  |some x=>
   rw[hx] at hu
   cases hu
   obtain⟨b,o,e2,h0⟩:=h j x hx;rw[e] at e2
   cases e2
   rw[BH];exact h0
 ·obtain⟨x,_,rfl⟩:=List.mem_map.1 hu;rfl
 ·rintro e w' ⟨v,rfl,hown,hb⟩;obtain⟨g,cap,rfl,g1,g2,g3,g4,g5,g6⟩:=ru hown h1;exact⟨g,cap,rfl,⟨g1,g2,fun k x hx=>g3 k _ (by rw[List.getElem?_map,hx];rfl),g5,g6⟩,hb⟩
theorem aar {w:wD} {la:Option aD} {ls:List Lnk} (h:jr w la ls): ∃(oa:Nat->Option aD) (oc:Nat->Nat),∀(i:Nat) (L:Lnk),ls[i]? =some L->(∃b o,la=some ⟨b,o,none⟩/\w.cell? ⟨b,o+i*3,none⟩=some (iN qi L.one)/\w.cell? ⟨b,o+i*3+1,none⟩=some (iN qi L.two)/\w.cell? ⟨b,o+i*3+2,none⟩=some (sL (oa i) L.steps.length (oc i)))/\SlB w (oa i) L.steps/\L.steps.length<=1000000:=by
 have key: ∀i:Nat,∃(a:Option aD) (c:Nat),∀(L:Lnk),ls[i]? =some L->(∃b o,la=some ⟨b,o,none⟩/\w.cell? ⟨b,o+i*3,none⟩=some (iN qi L.one)/\w.cell? ⟨b,o+i*3+1,none⟩=some (iN qi L.two)/\w.cell? ⟨b,o+i*3+2,none⟩=some (sL a L.steps.length c))/\SlB w a L.steps/\L.steps.length<=1000000:=fun i=>by
  cases e:ls[i]? with
  |none=>exact⟨none,0,fun L h=>by cases h⟩
  |some L=>
   obtain⟨b,o,sa,sc,h1,h2,h3,h4,h5,h6⟩:=h i L e;exact⟨sa,sc,fun L' h'=>by cases h';exact⟨⟨b,o,h1,h2,h3,h4⟩,h5,h6⟩⟩
 exact⟨fun i=>Classical.choose (key i),fun i=>Classical.choose (Classical.choose_spec (key i)),fun i=>Classical.choose_spec (Classical.choose_spec (key i))⟩
theorem aas {w:wD} {la:Option aD} {ls:List Pr} (h:jv w la ls): ∃(oa:Nat->Option aD) (oc:Nat->Nat),∀(i:Nat) (L:Pr),ls[i]? =some L->(∃b o,la=some ⟨b,o,none⟩/\w.cell? ⟨b,o+i*3,none⟩=some (iN qi L.one)/\w.cell? ⟨b,o+i*3+1,none⟩=some (iN qi L.two)/\w.cell? ⟨b,o+i*3+2,none⟩=some (sL (oa i) L.calls.length (oc i)))/\SlB w (oa i) L.calls/\L.calls.length<=1000000:=by
 have key: ∀i:Nat,∃(a:Option aD) (c:Nat),∀(L:Pr),ls[i]? =some L->(∃b o,la=some ⟨b,o,none⟩/\w.cell? ⟨b,o+i*3,none⟩=some (iN qi L.one)/\w.cell? ⟨b,o+i*3+1,none⟩=some (iN qi L.two)/\w.cell? ⟨b,o+i*3+2,none⟩=some (sL a L.calls.length c))/\SlB w a L.calls/\L.calls.length<=1000000:=fun i=>by
  cases e:ls[i]? with
  |none=>exact⟨none,0,fun L h=>by cases h⟩
  |some L=>
   obtain⟨b,o,sa,sc,h1,h2,h3,h4,h5,h6⟩:=h i L e;exact⟨sa,sc,fun L' h'=>by cases h';exact⟨⟨b,o,h1,h2,h3,h4⟩,h5,h6⟩⟩
 exact⟨fun i=>Classical.choose (key i),fun i=>Classical.choose (Classical.choose_spec (key i)),fun i=>Classical.choose_spec (Classical.choose_spec (key i))⟩
def rC (ls:List Lnk) (oa:Nat->Option aD) (oc:Nat->Nat):List (Int×Int×vL):=ls.mapIdx fun i L=>(L.one,L.two,sL (oa i) L.steps.length (oc i))
def rD (ls:List Pr) (oa:Nat->Option aD) (oc:Nat->Nat):List (Int×Int×vL):=ls.mapIdx fun i L=>(L.one,L.two,sL (oa i) L.calls.length (oc i))
theorem aat (ls:List Lnk) (la:Option aD) (lc:Nat) (w:wD) (oa:Nat->Option aD) (oc:Nat->Nat) (h: ∀(i:Nat) (L:Lnk),ls[i]? =some L->(∃b o,la=some ⟨b,o,none⟩/\w.cell? ⟨b,o+i*3,none⟩=some (iN qi L.one)/\w.cell? ⟨b,o+i*3+1,none⟩=some (iN qi L.two)/\w.cell? ⟨b,o+i*3+2,none⟩=some (sL (oa i) L.steps.length (oc i)))) (h1:1<=ls.length) (h2:ls.length<=1000000):
  cF tP 90 #[sL la ls.length lc] w fun e w'=> ∃g cap,e= rT (sL (some ⟨g,0,none⟩) ls.length cap)/\(w.heap.size<=g/\g<w'.heap.size/\(∀(i:Nat) (L:Lnk),ls[i]? =some L->w'.cell? ⟨g,i*3,none⟩=some (iN qi L.one)/\w'.cell? ⟨g,i*3+1,none⟩=some (iN qi L.two)/\w'.cell? ⟨g,i*3+2,none⟩=some (sL (oa i) L.steps.length (oc i)))/\ ∀j,w'.frozen? ⟨g,j,none⟩=false)/\bX w.heap.size w w':=by
 have hget: ∀(i:Nat) (L:Lnk),ls[i]? =some L->(rC ls oa oc)[i]? =some (L.one,L.two,sL (oa i) L.steps.length (oc i)):=fun i L hi=>by unfold rC;rw[List.getElem?_mapIdx,hi];rfl
 have hinv: ∀(i:Nat) (x:Int×Int×vL),(rC ls oa oc)[i]? =some x-> ∃L,ls[i]? =some L/\x=(L.one,L.two,sL (oa i) L.steps.length (oc i)):=fun i x hi=>by
  unfold rC at hi;rw[List.getElem?_mapIdx] at hi
  cases e:ls[i]? with
  |none=>rw[e] at hi;cases hi
  |some L=>rw[e] at hi;cases hi;exact⟨L,rfl,rfl⟩
 refine(Zp (tri (rC ls oa oc)) ls.length la lc w (by rw[ES];simp[rC]) h2 (fun e=> ?_) (fun ad e j u hu=> ?_) (EY _ fun x hx=> ?_)).mono ?_
 ·obtain⟨b,o,e2,_⟩:=h 0 _ (lG (by omega));rw[e] at e2;cases e2
 ·obtain⟨i,x,hi,hh⟩:=EU _ j u hu;obtain⟨L,hL,rfl⟩:=hinv i x hi;obtain⟨b,o,e2,k0,k1,k2⟩:=h i L hL;rw[e] at e2
  cases e2
  rw[BH]
  rcases hh with ⟨rfl,rfl⟩ |⟨rfl,rfl⟩ |⟨rfl,rfl⟩
  ·exact k0
  ·rw[<-Nat.add_assoc];exact k1
  ·rw[<-Nat.add_assoc];exact k2
 ·obtain⟨i,hi⟩:=List.getElem?_of_mem hx;obtain⟨L,_,rfl⟩:=hinv i x hi;rfl
 ·rintro e w' ⟨v,rfl,hown,hb⟩;obtain⟨g,cap,rfl,g1,g2,g3,g4,g5,g6⟩:=ru hown h1;refine⟨g,cap,rfl,⟨g1,g2,fun i L hL=> ?_,g4⟩,hb⟩;obtain⟨t0,t1,t2⟩:=ET _ i _ (hget i L hL);exact⟨g3 _ _ t0,g3 _ _ t1,g3 _ _ t2⟩
theorem aau (ls:List Pr) (la:Option aD) (lc:Nat) (w:wD) (oa:Nat->Option aD) (oc:Nat->Nat) (h: ∀(i:Nat) (L:Pr),ls[i]? =some L->(∃b o,la=some ⟨b,o,none⟩/\w.cell? ⟨b,o+i*3,none⟩=some (iN qi L.one)/\w.cell? ⟨b,o+i*3+1,none⟩=some (iN qi L.two)/\w.cell? ⟨b,o+i*3+2,none⟩=some (sL (oa i) L.calls.length (oc i)))) (hnil:la=none->lc=0) (h2:ls.length<=1000000):
  cF tP 91 #[sL la ls.length lc] w fun e w'=> ∃g a cap,e= rT (sL a ls.length cap)/\(w.heap.size<=g/\(1<=ls.length->a=some ⟨g,0,none⟩/\g<w'.heap.size)/\(a=none->cap=0)/\bG w' a/\(∀(i:Nat) (L:Pr),ls[i]? =some L->w'.cell? ⟨g,i*3,none⟩=some (iN qi L.one)/\w'.cell? ⟨g,i*3+1,none⟩=some (iN qi L.two)/\w'.cell? ⟨g,i*3+2,none⟩=some (sL (oa i) L.calls.length (oc i)))/\(1<=ls.length-> ∀j,w'.frozen? ⟨g,j,none⟩=false)/\ ∀ad,a=some ad->w.heap.size<=ad.block)/\bX w.heap.size w w':=by
 have hget: ∀(i:Nat) (L:Pr),ls[i]? =some L->(rD ls oa oc)[i]? =some (L.one,L.two,sL (oa i) L.calls.length (oc i)):=fun i L hi=>by unfold rD;rw[List.getElem?_mapIdx,hi];rfl
 have hinv: ∀(i:Nat) (x:Int×Int×vL),(rD ls oa oc)[i]? =some x-> ∃L,ls[i]? =some L/\x=(L.one,L.two,sL (oa i) L.calls.length (oc i)):=fun i x hi=>by
  unfold rD at hi;rw[List.getElem?_mapIdx] at hi
  cases e:ls[i]? with
  |none=>rw[e] at hi;cases hi
  |some L=>rw[e] at hi;cases hi;exact⟨L,rfl,rfl⟩
 refine(Zr (tri (rD ls oa oc)) ls.length la lc w (by rw[ES];simp[rD]) h2 (fun e=> ?_) (fun ad e j u hu=> ?_) (EY _ fun x hx=> ?_)).mono ?_
 ·refine⟨?_,hnil e⟩
  cases hx:ls[0]? with
  |none=>exact List.length_eq_zero_iff.2 (by simpa using hx)
  |some L=>
   obtain⟨b,o,e2,_⟩:=h 0 L hx;rw[e] at e2;cases e2
 ·obtain⟨i,x,hi,hh⟩:=EU _ j u hu;obtain⟨L,hL,rfl⟩:=hinv i x hi;obtain⟨b,o,e2,k0,k1,k2⟩:=h i L hL;rw[e] at e2
  cases e2
  rw[BH]
  rcases hh with ⟨rfl,rfl⟩ |⟨rfl,rfl⟩ |⟨rfl,rfl⟩
  ·exact k0
  ·rw[<-Nat.add_assoc];exact k1
  ·rw[<-Nat.add_assoc];exact k2
 ·obtain⟨i,hi⟩:=List.getElem?_of_mem hx;obtain⟨L,_,rfl⟩:=hinv i x hi;rfl
 ·rintro e w' ⟨v,rfl,hown,hb⟩;by_cases h1:1<=ls.length
  ·have hown2:=hown;obtain⟨g,cap,rfl,g1,g2,g3,g4,g5,g6⟩:=ru hown h1;obtain⟨r1,r2⟩:=aan hown2;refine⟨g,_,cap,rfl,⟨g1,fun _=>⟨rfl,g2⟩,r2,r1,fun i L hL=> ?_,fun _=>g4,fun ad e=>by cases e;exact g1⟩,hb⟩;obtain⟨t0,t1,t2⟩:=ET _ i _ (hget i L hL);exact⟨g3 _ _ t0,g3 _ _ t1,g3 _ _ t2⟩
  ·have h0:ls.length=0:=by omega
   have hls:=List.length_eq_zero_iff.1 h0;subst hls;obtain⟨_,⟨rfl,_⟩ |⟨g,cap,cur,rfl,hg,hrow,_⟩⟩:=hown
   ·exact⟨w.heap.size,none,0,rfl,⟨nR _,fun h=>absurd h h1,fun _=>rfl,fun ad e=>(by cases e),fun i L hL=>(by simp at hL),fun h=>absurd h h1,fun ad e=>(by cases e)⟩,hb⟩
   ·exact⟨g,some ⟨g,0,none⟩,cap,rfl,⟨hg,fun h=>absurd h h1,fun e=>(by cases e),fun ad e=>(by cases e;exact⟨_,_,_,hrow⟩),fun i L hL=>(by simp at hL),fun h=>absurd h h1,fun ad e=>(by cases e;exact hg)⟩,hb⟩
end Go.Proofs.YtfiiffnbggnkfaaDoor
