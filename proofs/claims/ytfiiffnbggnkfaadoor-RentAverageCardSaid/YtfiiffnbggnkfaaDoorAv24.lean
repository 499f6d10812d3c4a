/- A part of the proof of a law; no conditions of its own. -/
import Derived.Test.YtfiiffnbggnkfaaDoorAv23
open Go.RowKit renaming Below→bX
open Go renaming Value→vL, World→wD
open Go.IntKind renaming i64→qi
open Go.Value renaming int→iN, slice→sL, pointer→pN
open Go.Obj renaming cells→cL
set_option maxRecDepth 100000
open Go renaming undef→ud
open Nat renaming le_refl→nR
open Go.Lib renaming hid→lH
open Go.RowKit.Below renaming refl→bR
open Go.Proofs.Tryd renaming prog→tP
open List renaming getElem?_eq_getElem→lG
open Go.World renaming block_lt_of_cell?→wBk
set_option maxHeartbeats 4000000
namespace Go.Proofs.YtfiiffnbggnkfaaDoor
open Go.RowKit Go.Rent Go.Tp Go.Conc
noncomputable def ND:Code:=match Tryd.f21.body with
 |some (.seq _ (.seq c _))=>c
 |_=> .skip
def AfP (v0:vL) (ta la pa:Option Addr) (tc lc pc:Nat) (B:Bk) (i n:Int) (w W:wD) (h':Int) (ta' la' pa':Option Addr) (tc' lc' pc' n1 n2 n3:Nat) (al:Int) (a:Act) (w':wD):Prop:=
 ∃b8,a=⟨#[v0,iN qi i,iN qi n,pN (some ⟨w.heap.size,0,none⟩),ud,ud,iN qi 0,iN qi 0,pN (some ⟨b8,0,none⟩),iN qi al,ud,ud,ud,ud,ud,.tuple #[.agg #[iN qi h',sL ta' n1 tc',sL la' n2 lc',sL pa' n3 pc'],iN qi al],.agg #[iN qi B.hours,sL ta B.towns.length tc,sL la B.links.length lc,sL pa B.pairs.length pc],.agg #[iN qi B.hours,sL ta B.towns.length tc,sL la B.links.length lc,sL pa B.pairs.length pc],iN qi i,.bool true,.tuple #[.agg #[iN qi h',sL ta' n1 tc',sL la' n2 lc',sL pa' n3 pc'],iN qi al],.agg #[iN qi h',sL ta' n1 tc',sL la' n2 lc',sL pa' n3 pc'],iN qi al,ud,ud,ud,ud,ud,ud,ud,ud,ud,ud,ud,ud,ud,ud,ud,ud,ud,ud,ud,ud,ud,ud,ud,ud,ud,ud,ud,ud,ud,ud,ud,ud,ud,ud,ud,ud,ud,ud,ud,ud,ud,ud,ud,ud,ud,ud,ud,ud,ud,ud,ud],[]⟩/\W.heap.size<=b8/\bX W.heap.size W w'/\dW w' b8 (iN qi h') (sL ta' n1 tc') (sL la' n2 lc') (sL pa' n3 pc')
theorem aaJ (ta la pa:Option Addr) (tc lc pc:Nat) (B:Bk) (i n:Int) (hi:btw i 0 ((B.pairs.length:Int)-1)=true) (w W:wD) (v0:vL) (hs:aB w ⟨ta,la,pa,tc,lc,pc⟩ B) (hv:Vars w) (HBW:Hid (bX w.heap.size w W))
  (k0:W.cell? ⟨w.heap.size,0,none⟩=some (iN qi B.hours)) (k1:W.cell? ⟨w.heap.size,1,none⟩=some (sL ta B.towns.length tc)) (k2:W.cell? ⟨w.heap.size,2,none⟩=some (sL la B.links.length lc)) (k3:W.cell? ⟨w.heap.size,3,none⟩=some (sL pa B.pairs.length pc))
  (h':Int) (ta' la' pa':Option Addr) (tc' lc' pc' n1 n2 n3:Nat) (al:Int) (hres:bU ⟨ta,la,pa,tc,lc,pc⟩ B B.alarm= .tuple #[.agg #[iN qi h',sL ta' n1 tc',sL la' n2 lc',sL pa' n3 pc'],iN qi al]):
  ND.wp tP (Exit.then (AfP v0 ta la pa tc lc pc B i n w W h' ta' la' pa' tc' lc' pc' n1 n2 n3 al) Gone) ⟨#[v0,iN qi i,iN qi n,pN (some ⟨w.heap.size,0,none⟩),ud,ud,iN qi 0,iN qi 0,ud,ud,ud,ud,ud,ud,ud,ud,ud,ud,ud,ud,ud,ud,ud,ud,ud,ud,ud,ud,ud,ud,ud,ud,ud,ud,ud,ud,ud,ud,ud,ud,ud,ud,ud,ud,ud,ud,ud,ud,ud,ud,ud,ud,ud,ud,ud,ud,ud,ud,ud,ud,ud,ud,ud,ud,ud,ud,ud,ud,ud,ud,ud,ud,ud,ud],[]⟩ W:=by
 have Hs:=lH hs;have Hv:=lH hv;have HC:Hid (∀u,bX W.heap.size W u->bX W.heap.size W u/\u.cell? ⟨w.heap.size,0,none⟩=some (iN qi B.hours)/\u.cell? ⟨w.heap.size,1,none⟩=some (sL ta B.towns.length tc)/\u.cell? ⟨w.heap.size,2,none⟩=some (sL la B.links.length lc)/\u.cell? ⟨w.heap.size,3,none⟩=some (sL pa B.pairs.length pc)):=lH fun u h=>
  ⟨h,aoF h k0 (nR _),aoF h k1 (nR _),aoF h k2 (nR _),aoF h k3 (nR _)⟩
 have H0:Hid (∀u,bX W.heap.size W u->Calls tP 46 #[.agg #[iN qi B.hours,sL ta B.towns.length tc,sL la B.links.length lc,sL pa B.pairs.length pc],iN qi i] u fun e u'=>e= .returned (.bool true)/\jR W u u'):=lH fun u hu=>(c83 ⟨ta,la,pa,tc,lc,pc⟩ B i u Hs.out.np).mono fun _ _ h=>⟨by rw[h.1,hi],keepR hu h.2⟩;have HB:Hid (∀u,bX W.heap.size W u->Calls tP 34 #[.agg #[iN qi B.hours,sL ta B.towns.length tc,sL la B.links.length lc,sL pa B.pairs.length pc],.bool true] u fun e u'=>e= .returned (.tuple #[.agg #[iN qi h',sL ta' n1 tc',sL la' n2 lc',sL pa' n3 pc'],iN qi al])/\jR W u u'):=lH fun u hu=>by
  have hwu:=HBW.out.trans (hu.mono HBW.out.size);refine(c78 ⟨ta,la,pa,tc,lc,pc⟩ B true u (Hs.out.below hwu (nR _)) (Hv.out.v2.below hwu (nR _))).mono ?_;rintro e u' ⟨rfl,hb⟩;exact⟨by rw[tV,hres],keepR hu hb⟩
 clear hres hs hv hi;have HD:Hid (bX W.heap.size W W.drew):=lH (bR _ _).drew;have HDA:Hid (∀o,bX W.heap.size W ((W.alloc o).drew)):=lH fun o=>(bM (bR _ _)).drew;simp only[ND,Tryd.f21]
 go_region_held3 (fun w'=>bX W.heap.size W w'/\w'.cell? ⟨w.heap.size,0,none⟩=some (iN qi B.hours)/\w'.cell? ⟨w.heap.size,1,none⟩=some (sL ta B.towns.length tc)/\w'.cell? ⟨w.heap.size,2,none⟩=some (sL la B.links.length lc)/\w'.cell? ⟨w.heap.size,3,none⟩=some (sL pa B.pairs.length pc))
  ((refine HC.out _ ?_;go_split_ands;repeat (first |with_reducible assumption |with_reducible exact bR _ _ |with_reducible refine bM ?_ |with_reducible refine Below.drew ?_ |with_reducible refine Below.setCell ?_ ?_ _ | (focus (simp;done)) | (focus (simp;omega)) | (focus omega))))
  (first
   | (go_simp;go_at_call 46;go_split_ands;(with_reducible refine(H0.out _ ?_).mono ?_);(with_reducible assumption);rintro e w0 ⟨rfl,hk0⟩;have hzz:=hk0.1.out.size;have hbz':=hk0.1.out;(try (refine mP (mQ (b:=W.heap.size) hk0 ?_) ?_;(focus (first |with_reducible assumption |with_reducible exact kY _ |with_reducible exact mV _));intro hz4)))
   | (go_simp;go_at_call 34;go_split_ands;(with_reducible refine(HB.out _ ?_).mono ?_);(with_reducible assumption);rintro e w2 ⟨rfl,hk2⟩;have hzv:=hk2.1.out.size;have hbv':=hk2.1.out;(try (refine mP (mQ (b:=W.heap.size) hk2 ?_) ?_;(focus (first |with_reducible assumption |with_reducible exact kY _ |with_reducible exact mV _));intro hz4));(try (refine mP (mQ (b:=w0.heap.size) hk2 ?_) ?_;(focus (first |with_reducible assumption |with_reducible exact kY _ |with_reducible exact mV _));intro hz4));(try (obtain⟨⟨r0,r1,r2,r3⟩,g0,g1,g2,g3⟩:=hz4))))
 all_goals
  go_split_ands;refine⟨_,rfl, ?_, ?_,EP ?_ ?_ ?_ ?_ ?_ ?_ ?_ ?_⟩
  ·first
    |exact nR _
    |with_reducible assumption
  ·with_reducible assumption
  all_goals first
   | (go_simp;done)
   | (go_simp;refine World.cell?_setCell_same' _ _ _ ?_;go_simp;done)
def iM (B:Bk):List Int:=(List.range B.hours.toNat).map fun k:Nat=>(k:Int)
def BI (B:Bk) (i:Nat) (lim:Int) (n:Nat):Bool:= !(gtr i ((n:Int)+1) (iM B) B).2||decide (lim<(aC (gtr i ((n:Int)+1) (iM B) B).1 aT).2)
def iE (B:Bk) (i:Nat) (lim:Int):Nat->Nat->Nat
 | 0,n=>n
 |f+1,n=>if BI B i lim n then n else iE B i lim f (n+1)
def mW (B:Bk) (i:Nat) (lim:Int):vL:=
 if B.alarm≠0 then .tuple #[iN qi 0,iN qi B.alarm]
 else if btw lim 0 9999=false then .tuple #[iN qi 0,iN qi 1]
 else if lim<(aC B aT).2 then .tuple #[iN qi 0,iN qi 9]
 else .tuple #[iN qi ((iE B i lim 5 0 :Nat):Int),iN qi 0]
theorem NG {B:Bk} {i:Nat} {lim:Int} {n:Nat} (h:n<5) (hs:BI B i lim n=true):iE B i lim (5-n) n=n:=by
 rw[show 5-n=(5-(n+1))+1 by omega,iE,if_pos hs]
theorem aaK {B:Bk} {i:Nat} {lim:Int} {n:Nat} (h:n<5) (hs: ¬BI B i lim n=true):iE B i lim (5-n) n=iE B i lim (5-(n+1)) (n+1):=by
 rw[show 5-n=(5-(n+1))+1 by omega,iE,if_neg hs]
theorem aaL (k:Nat):ints ((List.range (k+1)).map fun j:Nat=>(j:Int))=ints ((List.range k).map fun j:Nat=>(j:Int))++ [iN qi (k:Int)]:=by
 unfold ints;rw[List.range_succ,List.map_append,List.map_append];rfl
theorem Fg (B:Bk):(iM B).length=B.hours.toNat:=by simp[iM]
theorem aaM {B:Bk} {x:Int} (h:x∈iM B):0<=x/\x<B.hours:=by
 unfold iM at h;simp only[List.mem_map,List.mem_range] at h;obtain⟨k,hk,rfl⟩:=h;omega
theorem NH (V:BkV) (B:Bk) (i:Nat) (lim:Int) (w:wD) (hs:aB w V B) (hv:Vars w) (hpc:V.pa=none->V.pc=0) (hi:i<B.pairs.length) (h0:B.alarm=0) (hb1:btw lim 0 9999=true):
  Calls tP 21 #[V.val B,iN qi (i:Int),iN qi lim] w fun e w'=>e= .returned (mW B i lim)/\bX w.heap.size w w':=by
 obtain⟨ta,la,pa,tc,lc,pc⟩:=V;have hbi:btw (i:Int) 0 ((B.pairs.length:Int)-1)=true:=by unfold btw;simp;omega
 have hres:bU ⟨ta,la,pa,tc,lc,pc⟩ B B.alarm= .tuple #[.agg #[iN qi B.hours,sL ta B.towns.length tc,sL la B.links.length lc,sL pa B.pairs.length pc],iN qi 0]:=by rw[h0];rfl
 have HE:Hid (mW B i lim=(if lim<(aC B aT).2 then .tuple #[iN qi 0,iN qi 9] else .tuple #[iN qi ((iE B i lim 5 0 :Nat):Int),iN qi 0])):=lH (by unfold mW;rw[if_neg (by simp[h0]),if_neg (by simp[hb1])]);have HG:=lH (gY h0);obtain⟨i0,hi3,hz0,hz1,hz2⟩:=info_parts info3;have Hi:=lH hi;have Hlim:=lH hb1;have Hs:=lH hs;have Hv:=lH hv;have Hpc:=lH hpc;have Hres:=lH hres;have Hbi:=lH hbi;have Hhh:Hid (1<=B.hours/\B.hours<=3):=lH HG.out.fine.hours;clear hs hv hpc hres hbi h0 hi hb1;go_enter Tryd.func21,Tryd.ntmps21
 go_wp2_with fail
 generalize hWd:w.alloc (cL #[iN qi B.hours,sL ta B.towns.length tc,sL la B.links.length lc,sL pa B.pairs.length pc] 26)=W;have HBW:Hid (bX w.heap.size w W):=lH (by subst hWd;exact(bR _ _).alloc (nR _) _);have k0:W.cell? ⟨w.heap.size,0,none⟩=some (iN qi B.hours):=by subst hWd;go_simp
 have k1:W.cell? ⟨w.heap.size,1,none⟩=some (sL ta B.towns.length tc):=by subst hWd;go_simp
 have k2:W.cell? ⟨w.heap.size,2,none⟩=some (sL la B.links.length lc):=by subst hWd;go_simp
 have k3:W.cell? ⟨w.heap.size,3,none⟩=some (sL pa B.pairs.length pc):=by subst hWd;go_simp
 clear hWd;refine Code.wp_mono ?_ (aaJ ta la pa tc lc pc B (i:Int) lim Hbi.out w W _ Hs.out Hv.out HBW k0 k1 k2 k3 B.hours ta la pa tc lc pc B.towns.length B.links.length B.pairs.length 0 Hres.out);rintro e a w' hq
 cases e with
 |normal=>
  obtain⟨b8,rfl,hb8,hbel,hrow⟩:=hq;have HBw':Hid (bX w.heap.size w w'):=lH (HBW.out.trans (hbel.mono HBW.out.size));obtain⟨z8,c0,c1,c2,c3,_,_,_,_⟩:=hrow;have m0:=aoF hbel k0 (nR _);clear k0 k1 k2 k3 hbel
  go_wp2_with fail
  refine(c69 lim 0 9999 _).mono ?_;rintro e w0 ⟨rfl,rfl⟩;rw[Hlim.out];have hf121:=EN
  go_wp2_with fail
  refine(qW ⟨ta,la,pa,tc,lc,pc⟩ B HG.out _ (Hs.out.below HBw'.out (nR _)) (Hv.out.below HBw'.out)).mono ?_;rintro e w2 ⟨fa,fc,rfl,_,_,g3,_,g5⟩;have Hg3:=lH g3;have HB2:Hid (bX w.heap.size w w2):=lH (HBw'.out.trans (g5.mono HBw'.out.size));have d0:=aoF g5 c0 (nR _);have d1:=aoF g5 c1 (nR _);have d2:=aoF g5 c2 (nR _);have d3:=aoF g5 c3 (nR _);have n0:=aoF g5 m0 (nR _);clear c0 c1 c2 c3 m0 g3 g5 z8 hb8;by_cases hgt:lim<(aC B aT).2
  ·have HE2:Hid (mW B i lim= .tuple #[iN qi 0,iN qi 9]):=lH (by rw[HE.out,if_pos hgt]);generalize aC B aT=x at *;go_wp2;refine bodyPost_ret (v:= .tuple #[iN qi 0,iN qi 9]) (by simp[results,Tryd.results21,go_sem]) rfl ⟨by rw[HE2.out],HB2.out⟩
  ·have HE2:Hid (mW B i lim= .tuple #[iN qi ((iE B i lim 5 0 :Nat):Int),iN qi 0]):=lH (by rw[HE.out,if_neg hgt]);generalize aC B aT=x at *
   go_wp2_with fail
   go_loopw [10,41] (fun v j wr=> ∃k:Nat,k<=B.hours.toNat/\j= iN qi (k:Int)/\wr.ownsRow w2.heap.size 3 1 v k (ints ((List.range k).map fun j:Nat=>(j:Int)))/\bX w2.heap.size w2 wr) (fun _ j _=>B.hours.toNat-(intOf j).toNat)
   case atStart=>exact⟨0,Nat.zero_le _,rfl,World.ownsRow_nil _ _ _ _,bR _ _⟩
   case round=>
    obtain⟨k,hk,rfl,hown,hb⟩:=hrel;have n1:=aoF hb n0 (nR _);have Hown:=lH hown;have Hb:=lH hb;clear hown hb;by_cases hlt:(k:Int)<B.hours
    ·go_wp2_with (at_builtin;refine wpList_append_own _ rfl _ _ 42 rfl w2.heap.size 3 i0 (iN qi 0) 1 8 Tryd.underlying42 hi3 hz0 hz1 hz2 rfl (by decide) _ _ _ rfl (Hown.out.alloc _) ⟨wr.heap.size,0,none⟩ 1 1 [iN qi (k:Int)] rfl rfl ?c1 ?c2 ?c3 ?c4 ?c5 ?_)
     case c1=>
      intro j u hj
      match j,hj with
      | 0,hj=>simp at hj;subst hj;simp[Addr.add]
     case c2=>intro u hu;simp at hu;subst hu;rfl
     case c3=>have:=Hhh.out;unfold maxLen;omega
     case c4=>have:=Hhh.out;omega
     case c5=>have:=Hb.out.size;simp;omega
     intro v' w4 hown' hgrow _;have R:=Bo Hb.out Hown.out hown' hgrow;rw[<-aaL] at R;have HR:=lH R;clear hown' hgrow R;have hk2:k+1<=B.hours.toNat:=by omega
     have hk3:(k:Int)+1<=3:=by have:=Hhh.out;omega
     go_wp2;go_roundw
     case rel=>exact⟨k+1,hk2,by go_num,HR.out.1,HR.out.2⟩
     case measure=>simp[intOf];omega
    ·have hke:k=B.hours.toNat:=by omega
     have Hl1:Hid (1<=(iM B).length):=lH (by rw[Fg];have:=Hhh.out;omega);have hown2:wr.ownsRow w2.heap.size 3 1 u10 (iM B).length (ints (iM B)):=by
      have:=Hown.out;rw[hke] at this;rw[Fg];exact this
     obtain⟨ob,cap,rfl,hob1,hob2,hsl,hcap,hcap2⟩:=nO hown2 Hl1.out;have HSl:=lH hsl;have HBr:=lH (HB2.out.trans (Hb.out.mono HB2.out.size));have e0:=aoF Hb.out d0 (nR _);have e1:=aoF Hb.out d1 (nR _);have e2:=aoF Hb.out d2 (nR _);have e3:=aoF Hb.out d3 (nR _);have HE4:=lH (And.intro e0 (And.intro e1 (And.intro e2 e3)));clear hown2 hsl hke n0 n1 d0 d1 d2 d3 e0 e1 e2 e3 hob1 hob2 hcap hcap2 Hown Hb hk;obtain⟨wA,hwA⟩: ∃wA,wA=wr:=⟨wr,rfl⟩;subst hwA
     go_wp2_with fail
     go_loopw [12] (fun v ws=> ∃n:Nat,n<=5/\v= iN qi (n:Int)/\iE B i lim 5 0=iE B i lim (5-n) n/\bX wA.heap.size wA ws) (fun v _=>5-(intOf v).toNat)
     case atStart=>exact⟨0,Nat.zero_le _,rfl,rfl,bR _ _⟩
     case round=>
      obtain⟨n,hn,rfl,haff,hb⟩:=hrel;have Haff:=lH haff;have Hb:=lH hb;have e0:=aoF hb HE4.out.1 (nR _);have e1:=aoF hb HE4.out.2.1 (nR _);have e2:=aoF hb HE4.out.2.2.1 (nR _);have e3:=aoF hb HE4.out.2.2.2 (nR _);have HBs:Hid (bX w.heap.size w wr):=lH (HBr.out.trans (hb.mono HBr.out.size));clear haff hb;by_cases hlt:n<5
      ·have hlt':(n:Int)<5:=by omega
       have hn0:(0 :Int)<=(n:Int):=Int.natCast_nonneg _;have HC84:=lH (c84 ⟨ta,la,pa,tc,lc,pc⟩ B HG.out i Hi.out ((n:Int)+1) (by omega) (iM B) (some ⟨ob,0,none⟩) cap wr (Hs.out.below HBs.out (nR _)) Hpc.out (HSl.out.below Hb.out (nR _)) (by rw[Fg];have:=Hhh.out;omega) (fun x hx=>aaM hx))
       go_wp2_with fail
       refine HC84.out.mono ?_;rintro e w4 ⟨⟨va,vl,vp,vtc,vlc,vpc⟩,O,rfl,hO,hb4⟩;have HB4:=lH hb4;have HO:=lH hO;clear hb4 hO HC84;have HSt:Hid (BI B i lim n=(!(gtr i ((n:Int)+1) (iM B) B).2||decide (lim<(aC (gtr i ((n:Int)+1) (iM B) B).1 aT).2))):=lH rfl
       cases hok:(gtr i ((n:Int)+1) (iM B) B).2 with
       |false=>
        have HF:Hid (iE B i lim 5 0=n):=lH (by rw[Haff.out];exact NG hlt (by rw[HSt.out,hok];rfl));clear hok;go_wp2;refine bodyPost_ret (v:= .tuple #[iN qi (n:Int),iN qi 0]) (by simp[results,Tryd.results21,go_sem]) rfl ⟨by rw[HE2.out,HF.out], ?_⟩;exact(HBs.out.trans (HB4.out.mono HBs.out.size)).trans ((bR _ _).alloc (HBs.out.trans (HB4.out.mono HBs.out.size)).size _)
       |true=>
        have HO2:=lH (HO.out hok);have HG2:=lH (Fa i _ _ B HG.out hok);obtain⟨f1,f2,f3,f4⟩:=Fb i ((n:Int)+1) (iM B) B;have Hval:Hid (∀V:BkV,V.val (gtr i ((n:Int)+1) (iM B) B).1=V.val B):=lH fun V=>by simp only[BkV.val,f1,f2,f3,f4]
        rw[hok,Bool.not_true,Bool.false_or] at HSt;clear f1 f2 f3 f4 hok HO;generalize (gtr i ((n:Int)+1) (iM B) B).1=B2 at *
        go_wp2_with fail
        have hbC:bX w4.heap.size w4 (w4.alloc (cL #[iN qi B.hours,sL va B.towns.length vtc,sL vl B.links.length vlc,sL vp B.pairs.length vpc] 81)):=(bR _ _).alloc (nR _) _;have HBC:=lH ((HBs.out.trans (HB4.out.mono HBs.out.size)).trans (hbC.mono (HBs.out.trans (HB4.out.mono HBs.out.size)).size));have hbest:=qW ⟨va,vl,vp,vtc,vlc,vpc⟩ B2 HG2.out _ ((HO2.out.below hbC).inn (Fe HG2.out)) (Hv.out.below HBC.out);rw[Hval.out] at hbest;have Hbest:=lH hbest;clear hbest hbC;refine Hbest.out.mono ?_;rintro e w5 ⟨ga,gc,rfl,_,_,g3,_,g5⟩;have Hg3':=lH g3;have HB5:Hid (bX w.heap.size w w5):=lH (HBC.out.trans (g5.mono HBC.out.size));have HB6:Hid (bX wA.heap.size wA w5):=lH ((Hb.out.trans ((HB4.out.trans (((bR _ _).alloc (nR _) _:bX w4.heap.size w4 (w4.alloc (cL #[iN qi B.hours,sL va B.towns.length vtc,sL vl B.links.length vlc,sL vp B.pairs.length vpc] 81))).mono HB4.out.size)).mono Hb.out.size)).trans (g5.mono (by have h1:=Hb.out.size;have h2:=HB4.out.size;simp;omega)));clear g3 g5 Hbest;by_cases hgt2:lim<(aC B2 aT).2
        ·have HF:Hid (iE B i lim 5 0=n):=lH (by rw[Haff.out];exact NG hlt (by rw[HSt.out];simpa using hgt2));generalize aC B2 aT=y at *;go_wp2;refine bodyPost_ret (v:= .tuple #[iN qi (n:Int),iN qi 0]) (by simp[results,Tryd.results21,go_sem]) rfl ⟨by rw[HE2.out,HF.out],HB5.out⟩
        ·have HF:Hid (iE B i lim 5 0=iE B i lim (5-(n+1)) (n+1)):=lH (by rw[Haff.out];exact aaK hlt (by rw[HSt.out];simpa using hgt2));generalize aC B2 aT=y at *;go_wp2;go_roundw
         case rel=>exact⟨n+1,by omega,by go_num,HF.out,HB6.out⟩
         case measure=>simp[intOf];omega
      ·have hlt': ¬(n:Int)<5:=by omega
       have HF:Hid (iE B i lim 5 0=n):=lH (by rw[Haff.out,show 5-n=0 by omega];rfl);go_wp2;refine bodyPost_ret (v:= .tuple #[iN qi (n:Int),iN qi 0]) (by simp[results,Tryd.results21,go_sem]) rfl ⟨by rw[HE2.out,HF.out],HBs.out⟩
 |_=>exact hq.elim
theorem aaN (a b c d:vL) (u:wD):(Instr.field 81 (.agg #[a,b,c,d]) 0).run tP u= .ok (.agg #[a,b,c,d]) u:=by
 have a3:=Tryd.isAgg26;have z3:=Tryd.sizeOf26;unfold Instr.field;simp only[Sem.run_bind,run_underlying Tryd.underlying81,Result.andThen_ok];go_simp;simp[asAgg]
theorem NI {B:Bk} (hG:Good B) (p:Int):Small (bQ B p):=by
 have h:=Fe hG;refine⟨h.nt,h.nl,by show (List.map _ _).length<=_;rw[List.length_map];exact h.np,h.st,fun i q hq=> ?_⟩;unfold bQ at hq;simp only[List.getElem?_map,Option.map_eq_some_iff] at hq;obtain⟨r,hr,rfl⟩:=hq
 show (List.map _ _).length<=_
 rw[List.length_map];exact h.cl i r hr
theorem aaO (V:BkV) (B:Bk) (p:Int):V.val (bQ B p)=V.val B:=by
 simp only[BkV.val,bQ,List.length_map]
theorem aaP (V:BkV) (B:Bk) (p:Int) (w:wD) (hs:aB w V B) (hv:Vars w) (hpc:V.pa=none->V.pc=0) (h0:B.alarm=0) (hp:btw p 0 100=true) (h1:(bQ B p).alarm=0):
  Calls tP 22 #[V.val B,iN qi p] w fun e w'=> ∃V' O,e= .returned (.tuple #[V'.val B,iN qi 0])/\bI w' w.heap.size V' (bQ B p) O/\bX w.heap.size w w':=by
 obtain⟨ta,la,pa,tc,lc,pc⟩:=V;have hb0:bX w.heap.size w ((w.alloc (cL #[iN qi B.hours,sL ta B.towns.length tc,sL la B.links.length lc,sL pa B.pairs.length pc] 26)).alloc (cL #[iN qi 0,sL none 0 0,sL none 0 0,sL none 0 0] 26)):=((bR _ _).alloc (nR _) _).alloc (by simp) _;have HC:=lH (c78 ⟨ta,la,pa,tc,lc,pc⟩ B true _ (hs.below hb0 (nR _)) (hv.v2.below hb0 (nR _)));rw[tV,h0,jE] at HC;have HB0:=lH hb0;have Hs:=lH hs;have Hv:=lH hv;have Hpc:=lH hpc;have Hp:=lH hp;have HG:=lH (gY h0);have H1:=lH h1;have hp2:=fK hp;have hf89:=aaN;clear hs hv hb0 hpc hp h0 h1;go_enter Tryd.func22,Tryd.ntmps22
 go_wp2_with fail
 generalize hWd:(w.alloc (cL #[iN qi B.hours,sL ta B.towns.length tc,sL la B.links.length lc,sL pa B.pairs.length pc] 26)).alloc (cL #[iN qi 0,sL none 0 0,sL none 0 0,sL none 0 0] 26)=W at *;have hWz:W.heap.size=w.heap.size+1+1:=by subst hWd;simp
 have HR1:Hid (tX W (w.heap.size+1)):=lH (by subst hWd;exact⟨⟨by go_simp,by go_simp,by go_simp,by go_simp⟩,by go_simp,by go_simp,by go_simp,by go_simp⟩);clear hWd;refine HC.out.mono ?_;rintro e w1 ⟨rfl,hb1⟩;have HW1:=lH hb1;clear hb1 HC
 go_wp2_with fail
 refine(c69 p 0 100 _).mono ?_;rintro e w0 ⟨rfl,rfl⟩;rw[Hp.out];have hbA:bX w1.heap.size w1 (w1.alloc (cL #[iN qi B.hours,sL ta B.towns.length tc,sL la B.links.length lc,sL pa B.pairs.length pc] 81)):=(bR _ _).alloc (nR _) _;have HW2:=lH (HW1.out.trans (hbA.mono HW1.out.size));have hb2:=HB0.out.trans (HW2.out.mono HB0.out.size);have HC2:=lH (c86 ⟨ta,la,pa,tc,lc,pc⟩ B HG.out p hp2 _ (Hs.out.below hb2 (nR _)) Hpc.out);clear hb2 hbA
 go_wp2_with fail
 refine HC2.out.mono ?_;rintro e w2 ⟨⟨va,vl,vp,vtc,vlc,vpc⟩,O,rfl,hO,hb3⟩;have HW3:=lH (HW2.out.trans (hb3.mono HW2.out.size));have hbB:bX w2.heap.size w2 (w2.alloc (cL #[iN qi B.hours,sL va B.towns.length vtc,sL vl B.links.length vlc,sL vp B.pairs.length vpc] 26)):=(bR _ _).alloc (nR _) _;have HO:=lH (hO.below hbB);have HW4:=lH (HW3.out.trans (hbB.mono HW3.out.size));have h19:=c19 ⟨va,vl,vp,vtc,vlc,vpc⟩ (bQ B p) _ (HO.out.inn (NI HG.out p)) (Hv.out.below (HB0.out.trans (HW4.out.mono HB0.out.size))).v2;rw[aaO,H1.out] at h19;have H19:=lH h19;clear hO hb3 hbB h19 HC2
 go_wp2_with fail
 refine H19.out.mono ?_;rintro e w4 ⟨rfl,hb5⟩;have HO5:=lH (HO.out.below hb5);have HW5:=lH (HW4.out.trans (hb5.mono HW4.out.size));have q0:=aoF hb5 (show (w2.alloc (cL #[iN qi B.hours,sL va B.towns.length vtc,sL vl B.links.length vlc,sL vp B.pairs.length vpc] 26)).cell? ⟨w2.heap.size,0,none⟩=some (iN qi B.hours) from by go_simp) (nR _);have q1:=aoF hb5 (show (w2.alloc (cL #[iN qi B.hours,sL va B.towns.length vtc,sL vl B.links.length vlc,sL vp B.pairs.length vpc] 26)).cell? ⟨w2.heap.size,1,none⟩=some (sL va B.towns.length vtc) from by go_simp) (nR _);have q2:=aoF hb5 (show (w2.alloc (cL #[iN qi B.hours,sL va B.towns.length vtc,sL vl B.links.length vlc,sL vp B.pairs.length vpc] 26)).cell? ⟨w2.heap.size,2,none⟩=some (sL vl B.links.length vlc) from by go_simp) (nR _);have q3:=aoF hb5 (show (w2.alloc (cL #[iN qi B.hours,sL va B.towns.length vtc,sL vl B.links.length vlc,sL vp B.pairs.length vpc] 26)).cell? ⟨w2.heap.size,3,none⟩=some (sL vp B.pairs.length vpc) from by go_simp) (nR _);have hb':=ak HW5.out;obtain⟨⟨c0,c1,c2,c3⟩,f0,f1,f2,f3⟩:=HR1.out;have r0:=(hb'.1 (w.heap.size+1) 0 (by omega)).trans c0;have g0:=(hb'.2 (w.heap.size+1) 0 (by omega)).trans f0;have r1:=(hb'.1 (w.heap.size+1) 1 (by omega)).trans c1;have g1:=(hb'.2 (w.heap.size+1) 1 (by omega)).trans f1;have r2:=(hb'.1 (w.heap.size+1) 2 (by omega)).trans c2;have g2:=(hb'.2 (w.heap.size+1) 2 (by omega)).trans f2;have r3:=(hb'.1 (w.heap.size+1) 3 (by omega)).trans c3;have g3:=(hb'.2 (w.heap.size+1) 3 (by omega)).trans f3;have hlo:w.heap.size+1<(w1.alloc (cL #[iN qi B.hours,sL ta B.towns.length tc,sL la B.links.length lc,sL pa B.pairs.length pc] 81)).heap.size:=by have:=HW1.out.size;simp;omega
 clear hb5 H19 hb' c0 c1 c2 c3 f0 f1 f2 f3;go_wp2;have n3:w.heap.size<=w.heap.size+1:=by omega
 have hlow: ∀u m n,bI u m ⟨va,vl,vp,vtc,vlc,vpc⟩ (bQ B p) O->n<=m->bI u n ⟨va,vl,vp,vtc,vlc,vpc⟩ (bQ B p) O:=fun u m n h hn=>⟨h.ta,h.la,h.pa,h.pc,h.rp,h.tc,h.towns,h.links,h.steps,h.pairs,h.calls,fun i q hq=>⟨⟨(h.free i q hq).1.1,Nat.le_trans hn (h.free i q hq).1.2⟩,(h.free i q hq).2⟩,h.dis,⟨Nat.le_trans hn h.lo.1,Nat.le_trans hn h.lo.2.1,Nat.le_trans hn h.lo.2.2.1,fun i L hL=>Nat.le_trans hn (h.lo.2.2.2 i L hL)⟩⟩;refine bodyPost_ret (v:= .tuple #[.agg #[iN qi B.hours,sL va B.towns.length vtc,sL vl B.links.length vlc,sL vp B.pairs.length vpc],iN qi 0]) (by simp[results,Tryd.results22,go_sem,r0,r1,r2,r3]) rfl
  ⟨⟨va,vl,vp,vtc,vlc,vpc⟩,O,rfl,hlow _ _ _ ((((HO5.out.far _ hlo).far _ hlo).far _ hlo).far _ hlo) (by omega), ?_⟩
 exact((((HB0.out.trans (HW5.out.mono HB0.out.size)).setCell (p:=⟨w.heap.size+1,0,none⟩) n3 _).setCell (p:=⟨w.heap.size+1,1,none⟩) n3 _).setCell (p:=⟨w.heap.size+1,2,none⟩) n3 _).setCell (p:=⟨w.heap.size+1,3,none⟩) n3 _
def tY (T:Nat->Int) (p:Int):Nat->Nat->Bk->Option Nat
 | 0,_,_=>none
 |f+1,k,B=>if B.alarm=0/\jk B T=true then tY T p f (k+1) (bQ B p) else some k
def aaQ:Option Nat->vL
 |some k=> .tuple #[iN qi (k:Int),.bool true,iN qi 0]
 |none=> .tuple #[iN qi 0,.bool false,iN qi 0]
noncomputable def gV:Code:=Tryd.f23.body.getD .skip
noncomputable def yrL:Code:=match gV with
 | .seq _ (.seq _ (.seq _ (.seq (.seq _ (.block _ (.loop l))) _)))=>l
 |_=> .skip
noncomputable def kZ:Code:=match gV with
 | .seq _ (.seq _ (.seq _ (.seq _ c)))=>c
 |_=> .skip
noncomputable def gq:Code:=match yrL with
 | .seq _ (.seq _ (.seq (.block _ c) _))=>c
 |_=> .skip
noncomputable def mX:Code:=match yrL with
 | .seq _ (.seq _ (.seq _ c))=>c
 |_=> .skip
noncomputable def lg:Array Oper:=match gq with
 | .seq _ (.seq (.seq (.region _ ops _) _) _)=>ops
 |_=> #[]
noncomputable def oW:Code:=match gq with
 | .seq _ (.seq (.seq _ c) _)=>c
 |_=> .skip
noncomputable def tZ:Code:=match gq with
 | .seq _ (.seq _ c)=>c
 |_=> .skip
def YA (t0 t1 t2 t3:vL) (b9:Nat) (t10 t11 t12 t13 t14 t15 t16 t17 t18 t19 t20 t21 t22 t23 t24 t25 t26 t27 t28 t29 t30 t31 t32 t33 t34 t35 t36 t37 t38 t39 t40 t41 t42:vL):Act:=⟨#[t0,t1,t2,t3,ud,ud,iN qi 0,.bool false,iN qi 0,pN (some ⟨b9,0,none⟩),t10,t11,t12,t13,t14,t15,t16,t17,t18,t19,t20,t21,t22,t23,t24,t25,t26,t27,t28,t29,t30,t31,t32,t33,t34,t35,t36,t37,t38,t39,t40,t41,t42],[]⟩
def kE (w:wD) (b9:Nat) (V:BkV) (B:Bk):Prop:=(w.cell? ⟨b9,0,none⟩=some (iN qi B.hours)/\w.cell? ⟨b9,1,none⟩=some (sL V.ta B.towns.length V.tc)/\w.cell? ⟨b9,2,none⟩=some (sL V.la B.links.length V.lc)/\w.cell? ⟨b9,3,none⟩=some (sL V.pa B.pairs.length V.pc))/\
 w.frozen? ⟨b9,0,none⟩=false/\w.frozen? ⟨b9,1,none⟩=false/\w.frozen? ⟨b9,2,none⟩=false/\w.frozen? ⟨b9,3,none⟩=false
def aaR (w:wD) (V:BkV) (B:Bk) (xv pv:vL) (it:List Item) (a:Act) (w':wD):Prop:=
 ∃t3 b9 t10 t11 t12 t13 t14 t15 t16 t17 t18 t19 t20 t21 t22 t23 t24,it= [.code (.block 1 (.loop yrL)),.code kZ]/\a=YA (V.val B) xv pv t3 b9 t10 t11 t12 t13 t14 t15 t16 t17 t18 t19 t20 t21 t22 t23 t24 (iN qi 0) ud ud ud ud ud ud ud ud ud ud ud ud ud ud ud ud ud/\w.heap.size<=b9/\kE w' b9 V B/\bX w.heap.size w w'
theorem aaS (V:BkV) (B:Bk) (xs:List Int) (xa:Option Addr) (xc:Nat) (p:Int) (hp:btw p 0 100=true) (w:wD) (hs:aB w V B) (hv:iG w) (hx:SlI w xa xs) (hxl:xs.length<=1000000) (hok:aH B xs true=0):
  Comes tP [.code gV] (aaR w V B (sL xa xs.length xc) (iN qi p)) ⟨#[V.val B,sL xa xs.length xc,iN qi p,ud,ud,ud,ud,ud,ud,ud,ud,ud,ud,ud,ud,ud,ud,ud,ud,ud,ud,ud,ud,ud,ud,ud,ud,ud,ud,ud,ud,ud,ud,ud,ud,ud,ud,ud,ud,ud,ud,ud,ud],[]⟩ w:=by
 obtain⟨ta,la,pa,tc,lc,pc⟩:=V;have hb0:bX w.heap.size w (w.alloc (cL #[iN qi B.hours,sL ta B.towns.length tc,sL la B.links.length lc,sL pa B.pairs.length pc] 26)):=(bR _ _).alloc (nR _) _;have HC:=lH (c55 ⟨ta,la,pa,tc,lc,pc⟩ B xs xa xc true _ (hs.below hb0 (nR _)) (hv.below hb0 (nR _)) (hx.below hb0 (nR _)) hxl);have HB0:=lH hb0;have Hp:=lH hp;clear hs hv hx hb0 hp;simp only[gV,Tryd.f23,Option.getD_some];refine aK (bg ?_);go_wp2;refine aK (bg ?_)
 go_wp2_with fail
 refine HC.out.mono ?_;rintro e w1 ⟨rfl,hb1⟩;rw[hok,jE];have Hbw:=lH (HB0.out.trans (hb1.mono (by simp)));clear hb1 HC;go_wp2;refine aK (bg ?_)
 go_wp2_with fail
 refine(c69 p 0 100 _).mono ?_;rintro e w0 ⟨rfl,rfl⟩;rw[Hp.out];go_wp2;refine aK (aK (bg ?_));go_wp2;refine dO ⟨_,w1.heap.size,_,_,_,_,_,_,_,_,_,_,_,_,_,_,_,rfl,rfl,Hbw.out.size,⟨⟨by go_simp,by go_simp,by go_simp,by go_simp⟩,by go_simp,by go_simp,by go_simp,by go_simp⟩,Hbw.out.trans ((bR _ _).alloc Hbw.out.size _)⟩
theorem oZ {f:FuncId} {it:List Item} {R:vL->wD->Prop} {a:Act} {w:wD} {τ:Nat->Question->Nat} {d:Nat} (h:GL tP f it R a w):GL tP f it R a (w.tp τ d noJ):=qL (τ:=w.tape) (d:=w.drawn) (by rw[dS,dh];exact h)
noncomputable def rE:Code:=match yrL with
 | .seq c _=>c
 |_=> .skip
noncomputable def rF:Code:=match yrL with
 | .seq _ (.seq c _)=>c
 |_=> .skip
noncomputable def NJ:Code:=match gq with
 | .seq c _=>c
 |_=> .skip
theorem NK:yrL= .seq rE (.seq rF (.seq (.block 2 gq) mX)):=rfl
theorem aaT:gq= .seq NJ (.seq (.seq (.region 9 lg false) oW) tZ):=rfl
theorem Fh {f:FuncId} {it:List Item} {R:vL->wD->Prop} {a:Act} {w:wD} {x y:Code} (e:x=y) (h:GL tP f (.code y::it) R a w):GL tP f (.code x::it) R a w:=e▸h
theorem aaU (t0 t3:vL) (tb tofs n xc b9:Nat) (p:Int) (k:Nat) (hk:k<7) (t10 t11 t12 t13 t14 t15 t16 t17 t18 t19 t20 t21 t22 t23 t24 t26 t27 t28 t29 t30 t31 t32 t33 t34 t35 t36 t37 t38 t39 t40 t41 t42:vL) (w:wD):
  Comes tP [.code rE,.code (.seq rF (.seq (.block 2 gq) mX))] (fun it a u=>it= [.code (.block 2 gq),.code mX]/\a=YA t0 (sL (some ⟨tb,tofs,none⟩) n xc) (iN qi p) t3 b9 t10 t11 t12 t13 t14 t15 t16 t17 t18 t19 t20 t21 t22 t23 t24 (iN qi (k:Int)) (.bool true) t27 t28 t29 t30 t31 t32 t33 t34 t35 t36 t37 t38 t39 t40 t41 t42/\u=w) (YA t0 (sL (some ⟨tb,tofs,none⟩) n xc) (iN qi p) t3 b9 t10 t11 t12 t13 t14 t15 t16 t17 t18 t19 t20 t21 t22 t23 t24 (iN qi (k:Int)) t26 t27 t28 t29 t30 t31 t32 t33 t34 t35 t36 t37 t38 t39 t40 t41 t42) w:=by
 have hk':(k:Int)<7:=by omega
 simp only[YA,rE,yrL,gV,Tryd.f23,Option.getD_some];refine bg ?_;go_wp2;refine aK (bg ?_);simp only[rF,yrL,gV,Tryd.f23,Option.getD_some];go_wp2;exact aK (dO ⟨rfl,rfl,rfl⟩)
theorem aaV (t0 t3:vL) (tb tofs n xc b9:Nat) (p:Int) (k:Nat) (t10 t11 t12 t13 t14 t15 t16 t17 t18 t19 t20 t21 t22 t23 t24 t26 t27 t28 t29 t30 t31 t32 t33 t34 t35 t36 t37 t38 t39 t40 t41 t42:vL) (w:wD) (V:BkV) (B:Bk) (hB:kE w b9 V B):
  Comes tP [.code gq] (fun it a u=>it= [.inRegion lg [2,3,4,5,6,7,8,9],.code oW,.code tZ]/\a=YA t0 (sL (some ⟨tb,tofs,none⟩) n xc) (iN qi p) t3 b9 (iN qi (k:Int)) t11 t12 t13 t14 t15 t16 t17 t18 t19 t20 t21 t22 t23 t24 (iN qi (k:Int)) t26 (iN qi (k:Int)) (pN (some ⟨b9,0,none⟩)) (V.val B) t30 t31 t32 t33 t34 t35 t36 t37 t38 t39 t40 t41 t42/\u=w) (YA t0 (sL (some ⟨tb,tofs,none⟩) n xc) (iN qi p) t3 b9 t10 t11 t12 t13 t14 t15 t16 t17 t18 t19 t20 t21 t22 t23 t24 (iN qi (k:Int)) t26 t27 t28 t29 t30 t31 t32 t33 t34 t35 t36 t37 t38 t39 t40 t41 t42) w:=by
 obtain⟨ta,la,pa,tc,lc,pc⟩:=V;obtain⟨⟨c0,c1,c2,c3⟩,_,_,_,_⟩:=hB;have hz:=wBk _ _ c0;rw[aaT];refine aK (bg ?_);simp only[YA,NJ,gq,yrL,gV,Tryd.f23,Option.getD_some];go_wp2;refine aK (aK (qN ?_));simp only[lg,gq,yrL,gV,Tryd.f23,Option.getD_some];refine dF rfl rfl (w1:=w) (v:= pN (some ⟨b9,0,none⟩)) (by go_simp) ?_;refine dF rfl rfl (w1:=w) (v:= .agg #[iN qi B.hours,sL ta B.towns.length tc,sL la B.links.length lc,sL pa B.pairs.length pc]) (by go_simp) ?_;exact dO ⟨rfl,rfl,rfl⟩
theorem NM {w:wD} {b o:Nat} {v:vL} (h:w.cell? ⟨b,o,none⟩=some v):bG w (some ⟨b,0,none⟩):=fun a e=>by
 cases e
 have hb:=wBk _ _ h;unfold World.cell? at h
 split at h
 all_goals first
  | (rename_i c t z hh;exact⟨_,_,_,hh⟩)
  | (rename_i hh;exact⟨_,_,_,hh⟩)
  |cases h
theorem aaW {w:wD} {n:Nat} {V:BkV} {B:Bk} {O:qZ} (h:bI w n V B O) (ht:0<B.towns.length) (hl:0<B.links.length):fH w V:=by
 refine⟨?_, ?_,h.rp⟩
 ·rw[h.ta];exact NM (h.towns 0 B.towns[0] (lG ht))
 ·rw[h.la];obtain⟨h1,_⟩:=h.links 0 B.links[0] (lG hl);exact NM h1
theorem aaX (t0 t3:vL) (tb tofs n xc b9:Nat) (p:Int) (k:Nat) (t11 t12 t13 t14 t15 t16 t17 t18 t19 t20 t21 t22 t23 t24 t26 t27 t28 t29 t30 t31 t32 t33 t34 t35 t36 t38 t39 t40 t41 t42:vL) (w:wD) (Q:Ending->wD->Prop) (hQ:Q (.returned (.tuple #[iN qi (k:Int),.bool true,iN qi 0])) w):
  oW.wp tP (Exit.then (fun _ _=>False) (bodyPost tP Tryd.f23 Q)) (YA t0 (sL (some ⟨tb,tofs,none⟩) n xc) (iN qi p) t3 b9 (iN qi (k:Int)) t11 t12 t13 t14 t15 t16 t17 t18 t19 t20 t21 t22 t23 t24 (iN qi (k:Int)) t26 t27 t28 t29 t30 t31 t32 t33 t34 t35 t36 (.bool true) t38 t39 t40 t41 t42) w:=by
 have HQ:=lH hQ;clear hQ;simp only[YA,oW,gq,yrL,gV,Tryd.f23,Option.getD_some];go_wp2;exact bodyPost_ret (v:= .tuple #[iN qi (k:Int),.bool true,iN qi 0]) (by simp[results,go_sem]) rfl HQ.out
theorem aaY (t0 t3:vL) (tb tofs n xc b9:Nat) (p:Int) (k:Nat) (t11 t12 t13 t14 t15 t16 t17 t18 t19 t20 t21 t22 t23 t24 t26 t27 t28 t29 t30 t31 t32 t33 t34 t35 t36 t38 t39 t40 t41 t42:vL) (w:wD) (Q:Ending->wD->Prop):
  oW.wp tP (Exit.then (fun a u=>a=YA t0 (sL (some ⟨tb,tofs,none⟩) n xc) (iN qi p) t3 b9 (iN qi (k:Int)) t11 t12 t13 t14 t15 t16 t17 t18 t19 t20 t21 t22 t23 t24 (iN qi (k:Int)) t26 t27 t28 t29 t30 t31 t32 t33 t34 t35 t36 (.bool false) t38 t39 t40 t41 t42/\u=w) (bodyPost tP Tryd.f23 Q)) (YA t0 (sL (some ⟨tb,tofs,none⟩) n xc) (iN qi p) t3 b9 (iN qi (k:Int)) t11 t12 t13 t14 t15 t16 t17 t18 t19 t20 t21 t22 t23 t24 (iN qi (k:Int)) t26 t27 t28 t29 t30 t31 t32 t33 t34 t35 t36 (.bool false) t38 t39 t40 t41 t42) w:=by
 simp only[YA,oW,gq,yrL,gV,Tryd.f23,Option.getD_some];go_wp2;exact⟨by first |rfl |trivial,by first |rfl |trivial⟩
theorem aaZ (t0 t3:vL) (tb tofs n xc b9:Nat) (p:Int) (k:Nat) (hk:k<7) (t10 t11 t12 t13 t14 t15 t16 t17 t18 t19 t20 t21 t22 t23 t24 t26 t27 t28 t29 t30 t31 t32 t33 t34 t35 t36 t37 t38 t39 t40 t41 t42:vL) (w:wD) (Q:Ending->wD->Prop):
  mX.wp tP (Exit.then (fun a u=>a=YA t0 (sL (some ⟨tb,tofs,none⟩) n xc) (iN qi p) t3 b9 t10 t11 t12 t13 t14 t15 t16 t17 t18 t19 t20 t21 t22 t23 t24 (iN qi ((k+1 :Nat):Int)) t26 t27 t28 t29 t30 t31 t32 t33 t34 t35 t36 t37 t38 t39 t40 t41 (iN qi ((k+1 :Nat):Int))/\u=w) (bodyPost tP Tryd.f23 Q)) (YA t0 (sL (some ⟨tb,tofs,none⟩) n xc) (iN qi p) t3 b9 t10 t11 t12 t13 t14 t15 t16 t17 t18 t19 t20 t21 t22 t23 t24 (iN qi (k:Int)) t26 t27 t28 t29 t30 t31 t32 t33 t34 t35 t36 t37 t38 t39 t40 t41 t42) w:=by
 have hk':(k:Int)+1<=7:=by omega
 have hw:IntKind.wrap qi ((k:Int)+1)=((k+1 :Nat):Int):=by rw[IntWalk.i64_in _ (by omega)];rfl
 simp only[YA,mX,yrL,gV,Tryd.f23,Option.getD_some];go_wp2;exact⟨by first |rfl |trivial | (rw[hw]) | (rw[hw];trivial),by first |rfl |trivial⟩
theorem aa0 (t0 t3:vL) (tb tofs n xc b9:Nat) (p:Int) (hp:0<=p/\p<=100) (k:Nat) (t10 t11 t12 t13 t14 t15 t16 t17 t18 t19 t20 t21 t22 t23 t24 t26 t27 t28 t29 t30 t31 t32 t33 t34 t35 t36 t37 t38 t39 t40 t41 t42:vL) (w:wD) (Q:Ending->wD->Prop) (V:BkV) (B:Bk) (hG:Good B) (hs:aB w V B) (hpc:V.pa=none->V.pc=0) (hB:kE w b9 V B) (m:Nat) (hm:m<=b9):
  tZ.wp tP (Exit.then (fun a u=>(∃t39 t40 t41,a=YA t0 (sL (some ⟨tb,tofs,none⟩) n xc) (iN qi p) t3 b9 t10 t11 t12 t13 t14 t15 t16 t17 t18 t19 t20 t21 t22 t23 t24 (iN qi (k:Int)) t26 t27 t28 t29 t30 t31 t32 t33 t34 t35 t36 t37 t38 t39 t40 t41 t42)/\ ∃V',aB u V' (bQ B p)/\fH u V'/\(V'.pa=none->V'.pc=0)/\kE u b9 V' (bQ B p)/\bX m w u) (bodyPost tP Tryd.f23 Q)) (YA t0 (sL (some ⟨tb,tofs,none⟩) n xc) (iN qi p) t3 b9 t10 t11 t12 t13 t14 t15 t16 t17 t18 t19 t20 t21 t22 t23 t24 (iN qi (k:Int)) t26 t27 t28 t29 t30 t31 t32 t33 t34 t35 t36 t37 t38 t39 t40 t41 t42) w:=by
 obtain⟨ta,la,pa,tc,lc,pc⟩:=V;obtain⟨⟨c0,c1,c2,c3⟩,f0,f1,f2,f3⟩:=hB;have hz:=wBk _ _ c0;have HC:=lH (c86 ⟨ta,la,pa,tc,lc,pc⟩ B hG p hp w hs hpc);have HG:=lH hG;clear hs hpc;simp only[YA,tZ,gq,yrL,gV,Tryd.f23,Option.getD_some]
 go_wp2_with fail
 refine HC.out.mono ?_;rintro e w2 ⟨⟨va,vl,vp,vtc,vlc,vpc⟩,O,rfl,hO,hb⟩;have HO:=lH hO;have HBB:=lH hb;have HRW:=lH (aaW hO (show 0<B.towns.length by have:=HG.out.fine.towns;omega) (show 0<B.links.length by have:=HG.out.fine.towns;have h3:=HG.out.fine.links;unfold Bk.spokes at h3;omega));have hb':=ak hb;have g0:=(hb'.2 b9 0 hz).trans f0;have g1:=(hb'.2 b9 1 hz).trans f1;have g2:=(hb'.2 b9 2 hz).trans f2;have g3:=(hb'.2 b9 3 hz).trans f3;have r0:=(hb'.1 b9 0 hz).trans c0;have r1:=(hb'.1 b9 1 hz).trans c1;have r2:=(hb'.1 b9 2 hz).trans c2;have r3:=(hb'.1 b9 3 hz).trans c3;clear hb hb' hO HC c0 c1 c2 c3 f0 f1 f2 f3;go_wp2;have HO4:=(((HO.out.far (b:=b9) (o:=0) (iN qi B.hours) hz).far (b:=b9) (o:=1) (sL va B.towns.length vtc) hz).far (b:=b9) (o:=2) (sL vl B.links.length vlc) hz).far (b:=b9) (o:=3) (sL vp B.pairs.length vpc) hz;refine⟨⟨_,_,_,rfl⟩,⟨va,vl,vp,vtc,vlc,vpc⟩,HO4.inn (NI HG.out p),⟨?_, ?_,HO4.rp⟩,HO4.pc, ?_, ?_⟩
 ·exact jm _ _ (jm _ _ (jm _ _ (jm _ _ HRW.out.ta)))
 ·exact jm _ _ (jm _ _ (jm _ _ (jm _ _ HRW.out.la)))
 ·have el:(bQ B p).pairs.length=B.pairs.length:=by simp[bQ]
  unfold kE;rw[el];clear HO4;refine⟨⟨?_, ?_, ?_, ?_⟩, ?_, ?_, ?_, ?_⟩
  all_goals simp[go_sem,r0,r1,r2,r3,g0,g1,g2,g3,bQ]
 ·exact((((HBB.out.mono (by omega)).setCell (p:=⟨b9,0,none⟩) hm _).setCell (p:=⟨b9,1,none⟩) hm _).setCell (p:=⟨b9,2,none⟩) hm _).setCell (p:=⟨b9,3,none⟩) hm _
theorem aa1 (R:vL->wD->Prop) (tl:List Item) (t0 t3:vL) (tb tofs xc b9:Nat) (p:Int) (T:Nat->Int) (t10 t11 t12 t13 t14 t15 t16 t17 t18 t19 t20 t21 t22 t23 t24 t25 t26 t27 t28 t29 t30 t31 t32 t33 t34 t35 t36 t37 t38 t39 t40 t41 t42:vL) (w:wD) (V:BkV) (B:Bk) (hs:aB w V B) (hv:Vars w) (hr:fH w V) (hB9:kE w b9 V B) (hT:bK w tb tofs B.links.length T)
  (h28:t28= pN (some ⟨b9,0,none⟩)) (h29:t29=V.val B)
  (k: ∀t11 t12 t13 t14 t15 t16 t17 t18 t19 t20 t21 t22 t23 t24 t26 t27 t28 t29 t30 t31 t32 t33 t34 t35 t36 t37 t38 t39 t40 t41 t42 w2,Kept w.heap.size w w2->(B.alarm=0-> ∀b,b=jk B T->t37= .bool (!b))->(B.alarm≠0->t37= .bool true)->GL tP 23 tl R (YA t0 (sL (some ⟨tb,tofs,none⟩) B.links.length xc) (iN qi p) t3 b9 t10 t11 t12 t13 t14 t15 t16 t17 t18 t19 t20 t21 t22 t23 t24 t25 t26 t27 t28 t29 t30 t31 t32 t33 t34 t35 t36 t37 t38 t39 t40 t41 t42) w2):
  GL tP 23 (.inRegion lg [2,3,4,5,6,7,8,9]::tl) R (YA t0 (sL (some ⟨tb,tofs,none⟩) B.links.length xc) (iN qi p) t3 b9 t10 t11 t12 t13 t14 t15 t16 t17 t18 t19 t20 t21 t22 t23 t24 t25 t26 t27 t28 t29 t30 t31 t32 t33 t34 t35 t36 t37 t38 t39 t40 t41 t42) w:=by
 subst h28 h29;obtain⟨ta,la,pa,tc,lc,pc⟩:=V;have h19:iK tP 50 #[.agg #[iN qi B.hours,sL ta B.towns.length tc,sL la B.links.length lc,sL pa B.pairs.length pc]] w (fun v w'=>v= iN qi B.alarm/\Kept w.heap.size w w'):=Ei good (R:=fun v w'=>v= iN qi B.alarm/\Kept w.heap.size w w') (fun v w' τ d r=>⟨r.1,fC.1 r.2⟩) fun τ=>(c19 ⟨ta,la,pa,tc,lc,pc⟩ B (w.tp τ 0 noJ) hs.tp hv.v2.tp).mono (by
  rintro e w' ⟨rfl,hb⟩;exact⟨_,rfl,rfl,mD.1 (by have:=Kept.of_below hb;rwa [jO] at this)⟩)
 simp only[YA,lg,gq,yrL,gV,Tryd.f23,Option.getD_some];refine qM good (g:=50) (args:= #[.agg #[iN qi B.hours,sL ta B.towns.length tc,sL la B.links.length lc,sL pa B.pairs.length pc]]) (by rfl) (by rfl) (fun u=>by go_simp) h19 ?_;rintro v w1 ⟨rfl,hk1⟩;by_cases h0:B.alarm=0
 ·rw[h0];have L1:fB w1 ⟨ta,la,pa,tc,lc,pc⟩ B tb tofs T:=(fB.mk (gY h0).fine (gY h0).steps hs.at hT hr.ta hr.la hr.pa hv.g0 hv.g1 hv.gl:fB w ⟨ta,la,pa,tc,lc,pc⟩ B tb tofs T).kept hk1;have c0:=dV hk1 (nR _) hB9.1.1;have c1:=dV hk1 (nR _) hB9.1.2.1;have c2:=dV hk1 (nR _) hB9.1.2.2.1;have c3:=dV hk1 (nR _) hB9.1.2.2.2;have hz:=wBk _ _ c0;refine jM good (Q:=fun it a u=>it= .inRegion lg [7,8,9]::tl/\a=YA t0 (sL (some ⟨tb,tofs,none⟩) B.links.length xc) (iN qi p) t3 b9 t10 t11 t12 t13 t14 t15 t16 t17 t18 t19 t20 t21 t22 t23 t24 t25 t26 t27 (pN (some ⟨b9,0,none⟩)) (.agg #[iN qi B.hours,sL ta B.towns.length tc,sL la B.links.length lc,sL pa B.pairs.length pc]) (iN qi 0) (.bool false) (.bool false) (.agg #[iN qi B.hours,sL ta B.towns.length tc,sL la B.links.length lc,sL pa B.pairs.length pc]) (sL (some ⟨tb,tofs,none⟩) B.links.length xc) t35 t36 t37 t38 t39 t40 t41 t42/\ ∃τ,u=w1.tp τ 0 noJ) (fun τ=> ?_) ?_
  ·have d0:=(bV (w:=w1) (τ:=τ) (d:=0) ⟨b9,0,none⟩).trans c0;have d1:=(bV (w:=w1) (τ:=τ) (d:=0) ⟨b9,1,none⟩).trans c1;have d2:=(bV (w:=w1) (τ:=τ) (d:=0) ⟨b9,2,none⟩).trans c2;have d3:=(bV (w:=w1) (τ:=τ) (d:=0) ⟨b9,3,none⟩).trans c3;have hz':b9<(w1.tp τ 0 noJ).heap.size:=by rw[jO];exact hz
   clear h19 L1 hs hv hr hB9 hT c0 c1 c2 c3 hz hk1;generalize hu:w1.tp τ 0 noJ=u at d0 d1 d2 d3 hz' ⊢;refine dF rfl rfl (w1:=u) (v:= .bool false) (by go_simp) ?_;refine dF rfl rfl (w1:=u) (v:= .bool false) (by go_simp) ?_;refine dF rfl rfl (w1:=u) (v:= .agg #[iN qi B.hours,sL ta B.towns.length tc,sL la B.links.length lc,sL pa B.pairs.length pc]) (by go_simp) ?_;refine dF rfl rfl (w1:=u) (v:= sL (some ⟨tb,tofs,none⟩) B.links.length xc) (by go_simp) ?_;exact dO ⟨rfl,rfl,τ,hu.symm⟩
  ·rintro it a u ⟨rfl,rfl,τ,rfl⟩;refine oZ ?_;simp only[YA,lg,gq,yrL,gV,Tryd.f23,Option.getD_some];refine qM good (g:=51) (args:= #[.agg #[iN qi B.hours,sL ta B.towns.length tc,sL la B.links.length lc,sL pa B.pairs.length pc],sL (some ⟨tb,tofs,none⟩) B.links.length xc]) (by rfl) (by rfl) (fun u=>by go_simp) (Zm w1 ⟨ta,la,pa,tc,lc,pc⟩ B tb tofs xc T L1) ?_;rintro v w2 ⟨rfl,hk2⟩;have hk3:Kept w.heap.size w w2:=hk1.trans (hk2.mono hk1.size);obtain⟨b,hb⟩: ∃b,b=jk B T:=⟨_,rfl⟩;rw[<-hb];refine jM good (Q:=fun it a u=>it=tl/\a=YA t0 (sL (some ⟨tb,tofs,none⟩) B.links.length xc) (iN qi p) t3 b9 t10 t11 t12 t13 t14 t15 t16 t17 t18 t19 t20 t21 t22 t23 t24 t25 t26 t27 (pN (some ⟨b9,0,none⟩)) (.agg #[iN qi B.hours,sL ta B.towns.length tc,sL la B.links.length lc,sL pa B.pairs.length pc]) (iN qi 0) (.bool false) (.bool false) (.agg #[iN qi B.hours,sL ta B.towns.length tc,sL la B.links.length lc,sL pa B.pairs.length pc]) (sL (some ⟨tb,tofs,none⟩) B.links.length xc) (.bool b) (.bool (!b)) (.bool (!b)) t38 t39 t40 t41 t42/\ ∃τ,u=w2.tp τ 0 noJ) (fun τ=> ?_) ?_
   ·generalize hu:w2.tp τ 0 noJ=u;clear h19 L1 hs hv hr hB9 hT c0 c1 c2 c3 hz hk1 hk2 hk3 hb k;refine dF rfl rfl (w1:=u) (v:= .bool (!b)) (by go_simp) ?_;refine dF rfl rfl (w1:=u) (v:= .bool (!b)) (by cases b<;>go_simp) ?_;exact Bj (dO ⟨rfl,rfl,τ,hu.symm⟩)
   ·rintro it a u ⟨rfl,rfl,τ,rfl⟩;exact oZ (k _ _ _ _ _ _ _ _ _ _ _ _ _ _ _ _ _ _ _ _ _ _ _ _ _ _ _ _ _ _ _ w2 hk3 (fun _ b' hb'=>by rw[hb',hb]) (fun h=>absurd h0 h))
 ·have hne:(B.alarm != 0)=true:=by simpa using h0
  refine jM good (Q:=fun it a u=>it= .inRegion lg [5,6,7,8,9]::tl/\a=YA t0 (sL (some ⟨tb,tofs,none⟩) B.links.length xc) (iN qi p) t3 b9 t10 t11 t12 t13 t14 t15 t16 t17 t18 t19 t20 t21 t22 t23 t24 t25 t26 t27 (pN (some ⟨b9,0,none⟩)) (.agg #[iN qi B.hours,sL ta B.towns.length tc,sL la B.links.length lc,sL pa B.pairs.length pc]) (iN qi B.alarm) (.bool true) (.bool true) t33 t34 t35 t36 t37 t38 t39 t40 t41 t42/\ ∃τ,u=w1.tp τ 0 noJ) (fun τ=> ?_) ?_
  ·generalize hu:w1.tp τ 0 noJ=u;generalize B.alarm=al at *;clear h19 hs hv hr hB9 hT hk1 k;refine dF rfl rfl (w1:=u) (v:= .bool true) (by go_simp) ?_;refine dF rfl rfl (w1:=u) (v:= .bool true) (by go_simp) ?_;exact dO ⟨rfl,rfl,τ,hu.symm⟩
  ·rintro it a u ⟨rfl,rfl,τ,rfl⟩;refine oZ ?_;simp only[YA,lg,gq,yrL,gV,Tryd.f23,Option.getD_some];refine Bf good (by rfl) (by rfl) ?_;refine Bf good (by rfl) (by rfl) ?_;refine Bf good (by rfl) (by rfl) ?_;refine Bf good (by rfl) (by rfl) ?_;refine jM good (Q:=fun it a u=>it=tl/\a=YA t0 (sL (some ⟨tb,tofs,none⟩) B.links.length xc) (iN qi p) t3 b9 t10 t11 t12 t13 t14 t15 t16 t17 t18 t19 t20 t21 t22 t23 t24 t25 t26 t27 (pN (some ⟨b9,0,none⟩)) (.agg #[iN qi B.hours,sL ta B.towns.length tc,sL la B.links.length lc,sL pa B.pairs.length pc]) (iN qi B.alarm) (.bool true) (.bool true) (ud) (ud) (ud) (ud) (.bool true) t38 t39 t40 t41 t42/\ ∃τ,u=w1.tp τ 0 noJ) (fun τ=> ?_) ?_
   ·generalize hu:w1.tp τ 0 noJ=u;clear h19 hs hv hr hB9 hT hk1 k;refine dF rfl rfl (w1:=u) (v:= .bool true) (by go_simp) ?_;exact Bj (dO ⟨rfl,rfl,τ,hu.symm⟩)
   ·rintro it a u ⟨rfl,rfl,τ,rfl⟩;exact oZ (k _ _ _ _ _ _ _ _ _ _ _ _ _ _ _ _ _ _ _ _ _ _ _ _ _ _ _ _ _ _ _ w1 hk1 (fun h=>absurd h h0) (fun _=>rfl))
end Go.Proofs.YtfiiffnbggnkfaaDoor
