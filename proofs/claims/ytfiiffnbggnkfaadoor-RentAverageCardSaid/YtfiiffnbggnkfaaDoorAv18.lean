/- A part of the proof of a law; no conditions of its own. -/
import Derived.Test.YtfiiffnbggnkfaaDoorAv17
import Derived.Lib.SmallJoins
import Derived.Deep.SlicePairs
open Go renaming Addr→aD, Value→vL, World→wD
open Go.RowKit renaming Below→bX
open Go.IntKind renaming i64→qi
open Go.Value renaming int→iN, slice→sL
set_option maxRecDepth 100000
open Nat renaming le_refl→nR
open Go.Lib renaming hid→lH
open Go.RowKit.Below renaming refl→bR
open Go.Proofs.Tryd renaming prog→tP
open List renaming getElem?_eq_getElem→lG
open List renaming getElem?_eq_some_iff→lS
set_option maxHeartbeats 4000000
namespace Go.Proofs.YtfiiffnbggnkfaaDoor
open Go.RowKit Go.Rent Go.Tp Go.Conc
theorem tJ (l:List (Int×Int)) (a b:Int): ∀k,bZ (aX l k) a b=true↔ ∃j,j<k/\l[j]? =some (a,b)
 | 0=>by simp[aX,bZ]
 |k+1=>by
  have ih:=tJ l a b k
  cases h:l[k]? with
  |none=>
   have e:aX l (k+1)=aX l k:=by show (match l[k]? with |some p=>p::aX l k |none=>aX l k)=_;rw[h]
   rw[e,ih];refine⟨fun⟨j,hj,q⟩=>⟨j,by omega,q⟩,fun⟨j,hj,q⟩=>⟨j, ?_,q⟩⟩;by_cases e:j=k
   ·subst e;rw[h] at q;cases q
   ·omega
  |some p=>
   rw[pU h];obtain⟨p1,p2⟩:=p;rw[Ce];simp only[Bool.or_eq_true,Bool.and_eq_true,beq_iff_eq,ih];constructor
   ·rintro(⟨e1,e2⟩ |⟨j,hj,q⟩)
    ·subst e1 e2;exact⟨k,by omega,h⟩
    ·exact⟨j,by omega,q⟩
   ·rintro⟨j,hj,q⟩;by_cases e:j=k
    ·subst e;rw[h] at q;cases q;exact .inl ⟨rfl,rfl⟩
    ·exact .inr ⟨j,by omega,q⟩
theorem EJ {l:List (Int×Int)} {a b:Int} {k:Nat} (h: ∀j,j<k->l[j]? ≠some (a,b)):bZ (aX l k) a b=false:=by
 cases e:bZ (aX l k) a b with
 |false=>rfl
 |true=>
  obtain⟨j,hj,q⟩:=(tJ l a b k).1 e;exact absurd q (h j hj)
structure LkQ (w0 w:wD) (b n4:Nat) (h:Int) (t l p:vL) (x y:Int) (s:vL):Prop where
 below:bX w0.heap.size w0 w
 box:gI w b h t l p
 z4:n4<w.heap.size
 d0:w.cell? ⟨n4,0,none⟩=some (iN qi x)
 d1:w.cell? ⟨n4,1,none⟩=some (iN qi y)
 d2:w.cell? ⟨n4,2,none⟩=some s
theorem LkQ.step {w0 w w':wD} {b n4:Nat} {h:Int} {t l p:vL} {x y:Int} {s:vL} (q:LkQ w0 w b n4 h t l p x y s) (hb:bX w.heap.size w w'):LkQ w0 w' b n4 h t l p x y s:=
 ⟨q.below.trans (hb.mono q.below.size),q.box.below hb q.box.1,Nat.lt_of_lt_of_le q.z4 hb.size,aoF hb q.d0 (nR _),aoF hb q.d1 (nR _),aoF hb q.d2 (nR _)⟩
theorem LkQ.dn {w0 w:wD} {b n4:Nat} {h:Int} {t l p:vL} {x y:Int} {s:vL} (q:LkQ w0 w b n4 h t l p x y s) (n:Nat):LkQ w0 (w.drewN n) b n4 h t l p x y s:=q.step (aV (bR _ _) _)
theorem c62 (h:Int) (ta:Option aD) (nt tc:Nat) (la:Option aD) (ls:List Lnk) (lc:Nat) (pa:Option aD) (pn pc:Nat) (w:wD) (hs:jr w la ls) (hl:ls.length<=1000000) (hnt:nt<=1000000):
  Calls tP 61 #[.agg #[iN qi h,sL ta nt tc,sL la ls.length lc,sL pa pn pc]] w fun e w'=>e= .returned (iN qi (dA nt ls))/\bX w.heap.size w w':=by
 have Hs:=lH hs;clear hs
 cases hbt:btw (ls.length:Int) ((nt:Int)-1) 6 with
 |false=>
  have HH:=lH (show dA (nt:Int) ls=2 by unfold dA;rw[hbt];rfl);go_enter Tryd.func61,Tryd.ntmps61
  go_wp2_with (go_at_call 59;refine(gU _ _ _ _).mono ?_;rintro e w' ⟨rfl,rfl⟩)
  go_ret;exact⟨by rw[HH.out]<;>rfl,(bR _ _).alloc (nR _) _⟩
 |true=>
  have HH:=lH (show dA (nt:Int) ls=fO nt 0 [] ls by unfold dA;rw[hbt];rfl);go_enter Tryd.func61,Tryd.ntmps61
  go_wp2_with (go_at_call 59;refine(gU _ _ _ _).mono ?_;rintro e w' ⟨rfl,rfl⟩)
  clear hbt
  go_loopw [3] (fun i wr=> ∃k:Nat,k<=ls.length/\i= iN qi (k:Int)/\fO nt 0 [] ls=fO nt k (aX (ls.map dH) k) (ls.drop k)/\bX w.heap.size w wr/\gI wr w.heap.size h (sL ta nt tc) (sL la ls.length lc) (sL pa pn pc)) (fun i _=>ls.length-(intOf i).toNat)
  case atStart=>exact⟨0,Nat.zero_le _,rfl,rfl,(bR _ _).alloc (nR _) _,by simp,by go_simp,by go_simp,by go_simp,by go_simp⟩
  case round=>
   obtain⟨k,hk,rfl,hfk,hb,hB⟩:=hrel;have Hfk:=lH hfk;have HB:=lH hB;clear hfk;obtain⟨q0,q1,q2,q3,q4⟩:=hB;by_cases hlt:k<ls.length
   ·have hx:ls[k]? =some ls[k]:=lG hlt;have hkl:(k:Int)<(ls.length:Int):=by omega
    obtain⟨b,o,sa,sc,e1,g0,g1,g2,g3,g4⟩:=Hs.out k _ hx;replace g0:=aoF hb g0 (nR _);replace g1:=aoF hb g1 (nR _);replace g2:=aoF hb g2 (nR _)
    cases e1
    have hat:=Gx (nt:=(nt:Int)) hx;generalize ls[k]=L at *;obtain⟨x,y,st⟩:=L;simp only at g0 g1 g2 g3 g4 hat;have Hat:=lH hat;have HQ0:Hid (LkQ w (wr.alloc (.cells #[iN qi x,iN qi y,sL sa st.length sc] 79)) w.heap.size wr.heap.size h (sL ta nt tc) (sL (some ⟨b,o,none⟩) ls.length lc) (sL pa pn pc) x y (sL sa st.length sc)):=lH
     ⟨hb.alloc hb.size _,HB.out.below ((bR _ _).alloc (nR _) _) q0,by simp,by go_simp,by go_simp,by go_simp⟩
    have Hst:Hid (SlB w sa st):=lH g3;clear hx hat g3;by_cases hE:btw x 0 ((nt:Int)-1)=false\/btw y 0 ((nt:Int)-1)=false
    ·have HF:Hid (dA nt ls=6):=lH (by rw[HH.out,Hfk.out,Hat.out,if_pos hE]);have hal:oN nt x y=6:=if_pos hE;clear hE
     go_wp2_with fail
     refine(c97 h ta nt tc _ _ lc _ _ pc x y _ hnt).mono ?_;rintro e w1 ⟨rfl,hb1⟩;rw[hal];have HQ:=lH (HQ0.out.step hb1);clear hb1;go_wp2;go_ret;exact⟨by rw[HF.out]<;>rfl,HQ.out.below⟩
    ·have HE:=lH hE;have hal:oN nt x y=0:=if_neg hE;clear hE
     go_wp2_with fail
     refine(c97 h ta nt tc _ _ lc _ _ pc x y _ hnt).mono ?_;rintro e w1 ⟨rfl,hb1⟩;rw[hal];have HQ:=lH (HQ0.out.step hb1);obtain⟨_,⟨r0,r1,r2,r3,r4⟩,z4,d0,d1,d2⟩:=HQ.out;clear hb1 q0 q1 q2 q3 q4 hb g0 g1 g2 hal HQ0 HB;by_cases hkn:(k:Int)<(nt:Int)-1
     ·by_cases hx0:x=0
      ·by_cases hy0:y=(k:Int)+1
       ·have HL:Hid (¬dD nt k x y):=lH (by unfold dD;omega);have hxb:(x != 0)=false:=by simpa using hx0
        have hyb:(y != (k:Int)+1)=false:=by simpa using hy0
        have hge: ¬(nt:Int)-1<=(k:Int):=by omega
        have HXY:=lH (And.intro hx0 hy0);clear hx0 hy0;have HQ2:=HQ
        go_wp2_with fail
        obtain⟨wA,hwA⟩: ∃wA,wA=w1:=⟨w1,rfl⟩
        go_loopw [6] (fun j wr=> ∃m:Nat,m<=k/\j= iN qi (m:Int)/\(∀i,i<m->(ls.map dH)[i]? ≠some (x,y))/\ ∃n,wr=w1.drewN n) (fun j _=>k-(intOf j).toNat)
        case atStart=>exact⟨0,Nat.zero_le _,rfl,fun i hi=>by omega,0,rfl⟩
        case round=>
         obtain⟨m,hm,rfl,hno,n,rfl⟩:=hrel;have Hno:=lH hno;clear hno;by_cases hmk:m<k
         ·have hmx:ls[m]? =some ls[m]:=lG (by omega);obtain⟨b',o',sa',sc',e1',j0,j1,_⟩:=(Hs.out.below HQ.out.below (nR _)) m _ hmx
          cases e1'
          have hmp:(ls.map dH)[m]? =some ((ls[m]).one,(ls[m]).two):=by rw[List.getElem?_map,hmx];rfl
          have Hmp:=lH hmp;have hml:(m:Int)<(ls.length:Int):=by omega
          clear hmx hmp;generalize (ls[m]).one=p at *;generalize (ls[m]).two=q at *;by_cases hp:p=x
          ·by_cases hq:q=y
           ·subst hp hq;have HM:Hid (bZ (aX (ls.map dH) k) p q=true):=lH ((tJ _ _ _ _).2 ⟨m,hmk,Hmp.out⟩);have HF:Hid (dA nt ls=5):=lH (by rw[HH.out,Hfk.out,Hat.out,if_neg HE.out,if_neg HL.out,if_pos HM.out])
            go_wp2_with fail
            go_quiet (fail)
            go_wp2;go_ret;exact⟨by rw[HF.out]<;>rfl,by first |exact aV HQ.out.below _ |exact aV (aV HQ.out.below _) _⟩
           ·have hqb:(q==y)=false:=by simpa using hq
            have HN:Hid (∀i,i<m+1->(ls.map dH)[i]? ≠some (x,y)):=lH fun i hi=>by
             by_cases e:i=m
             ·subst e;rw[Hmp.out];simp[hq]
             ·exact Hno.out i (by omega)
            subst hp;clear hq
            go_wp2_with fail
            go_quiet (fail)
            go_wp2;exact⟨⟨m+1,by omega,rfl,HN.out,n+nq,rfl⟩,by simp[intOf];omega⟩
          ·have hpb:(p==x)=false:=by simpa using hp
           have HN:Hid (∀i,i<m+1->(ls.map dH)[i]? ≠some (x,y)):=lH fun i hi=>by
            by_cases e:i=m
            ·subst e;rw[Hmp.out];simp[hp]
            ·exact Hno.out i (by omega)
           clear hp
           go_wp2_with fail
           go_quiet (fail)
           go_wp2;exact⟨⟨m+1,by omega,rfl,HN.out,n+nq,rfl⟩,by simp[intOf];omega⟩
         ·have HM:Hid (bZ (aX (ls.map dH) k) x y=false):=lH (EJ fun i hi=>Hno.out i (by omega));have HQ3:=lH (HQ.out.dn n);have hsl:=Hst.out.below (HQ3.out.below) (nR _);by_cases hst:bJ st=0
          ·have HF:Hid (fO nt 0 [] ls=fO nt (k+1) (aX (ls.map dH) (k+1)) (ls.drop (k+1))):=lH (by rw[Hfk.out,Hat.out,if_neg HE.out,if_neg HL.out,if_neg (by rw[HM.out];decide),if_pos hst])
           go_wp2_with fail
           refine(c98 st _ _ _ hsl g4).mono ?_;rintro e w2 ⟨rfl,hb2⟩;rw[hst];have HQ4:=lH (HQ3.out.step hb2);clear hb2 hsl hst;go_wp2;exact⟨⟨k+1,by omega,rfl,HF.out,HQ4.out.below,HQ4.out.box⟩,by simp[intOf];omega⟩
          ·have HF:Hid (dA nt ls=bJ st):=lH (by rw[HH.out,Hfk.out,Hat.out,if_neg HE.out,if_neg HL.out,if_neg (by rw[HM.out];decide),if_neg hst])
           go_wp2_with fail
           refine(c98 st _ _ _ hsl g4).mono ?_;rintro e w2 ⟨rfl,hb2⟩;have HQ4:=lH (HQ3.out.step hb2);generalize bJ st=al at *;have hstb:(al != 0)=true:=by simpa using hst
           clear hb2 hsl hst;go_wp2;go_ret;exact⟨by rw[HF.out]<;>rfl,HQ4.out.below⟩
       ·have HL:Hid (dA nt ls=7):=lH (by rw[HH.out,Hfk.out,Hat.out,if_neg HE.out,if_pos (by unfold dD;omega)]);have hxb:(x != 0)=false:=by simpa using hx0
        have hyb:(y != (k:Int)+1)=true:=by simpa using hy0
        have HXY:=lH (And.intro hx0 hy0);clear hx0 hy0;go_wp2;go_ret;exact⟨by rw[HL.out]<;>rfl,HQ.out.below⟩
      ·have HL:Hid (dA nt ls=7):=lH (by rw[HH.out,Hfk.out,Hat.out,if_neg HE.out,if_pos (by unfold dD;omega)]);have hxb:(x != 0)=true:=by simpa using hx0
       go_wp2;go_ret;exact⟨by rw[HL.out]<;>rfl,HQ.out.below⟩
     ·have hge:(nt:Int)-1<=(k:Int):=by omega
      by_cases hx0:x=0
      ·have HL:Hid (dA nt ls=7):=lH (by rw[HH.out,Hfk.out,Hat.out,if_neg HE.out,if_pos (by unfold dD;omega)]);have hxb:(x==0)=true:=by simpa using hx0
       have HXY:=lH hx0;clear hx0;go_wp2;go_ret;exact⟨by rw[HL.out]<;>rfl,HQ.out.below⟩
      ·have hxb:(x==0)=false:=by simpa using hx0
       by_cases hxy:y<=x
       ·have HL:Hid (dA nt ls=7):=lH (by rw[HH.out,Hfk.out,Hat.out,if_neg HE.out,if_pos (by unfold dD;omega)]);go_wp2;go_ret;exact⟨by rw[HL.out]<;>rfl,HQ.out.below⟩
       ·have HL:Hid (¬dD nt k x y):=lH (by unfold dD;omega);have HQ2:=HQ
        go_wp2_with fail
        obtain⟨wA,hwA⟩: ∃wA,wA=w1:=⟨w1,rfl⟩
        go_loopw [6] (fun j wr=> ∃m:Nat,m<=k/\j= iN qi (m:Int)/\(∀i,i<m->(ls.map dH)[i]? ≠some (x,y))/\ ∃n,wr=w1.drewN n) (fun j _=>k-(intOf j).toNat)
        case atStart=>exact⟨0,Nat.zero_le _,rfl,fun i hi=>by omega,0,rfl⟩
        case round=>
         obtain⟨m,hm,rfl,hno,n,rfl⟩:=hrel;have Hno:=lH hno;clear hno;by_cases hmk:m<k
         ·have hmx:ls[m]? =some ls[m]:=lG (by omega);obtain⟨b',o',sa',sc',e1',j0,j1,_⟩:=(Hs.out.below HQ.out.below (nR _)) m _ hmx
          cases e1'
          have hmp:(ls.map dH)[m]? =some ((ls[m]).one,(ls[m]).two):=by rw[List.getElem?_map,hmx];rfl
          have Hmp:=lH hmp;have hml:(m:Int)<(ls.length:Int):=by omega
          clear hmx hmp;generalize (ls[m]).one=p at *;generalize (ls[m]).two=q at *;by_cases hp:p=x
          ·by_cases hq:q=y
           ·subst hp hq;have HM:Hid (bZ (aX (ls.map dH) k) p q=true):=lH ((tJ _ _ _ _).2 ⟨m,hmk,Hmp.out⟩);have HF:Hid (dA nt ls=5):=lH (by rw[HH.out,Hfk.out,Hat.out,if_neg HE.out,if_neg HL.out,if_pos HM.out])
            go_wp2_with fail
            go_quiet (fail)
            go_wp2;go_ret;exact⟨by rw[HF.out]<;>rfl,by first |exact aV HQ.out.below _ |exact aV (aV HQ.out.below _) _⟩
           ·have hqb:(q==y)=false:=by simpa using hq
            have HN:Hid (∀i,i<m+1->(ls.map dH)[i]? ≠some (x,y)):=lH fun i hi=>by
             by_cases e:i=m
             ·subst e;rw[Hmp.out];simp[hq]
             ·exact Hno.out i (by omega)
            subst hp;clear hq
            go_wp2_with fail
            go_quiet (fail)
            go_wp2;exact⟨⟨m+1,by omega,rfl,HN.out,n+nq,rfl⟩,by simp[intOf];omega⟩
          ·have hpb:(p==x)=false:=by simpa using hp
           have HN:Hid (∀i,i<m+1->(ls.map dH)[i]? ≠some (x,y)):=lH fun i hi=>by
            by_cases e:i=m
            ·subst e;rw[Hmp.out];simp[hp]
            ·exact Hno.out i (by omega)
           clear hp
           go_wp2_with fail
           go_quiet (fail)
           go_wp2;exact⟨⟨m+1,by omega,rfl,HN.out,n+nq,rfl⟩,by simp[intOf];omega⟩
         ·have HM:Hid (bZ (aX (ls.map dH) k) x y=false):=lH (EJ fun i hi=>Hno.out i (by omega));have HQ3:=lH (HQ.out.dn n);have hsl:=Hst.out.below (HQ3.out.below) (nR _);by_cases hst:bJ st=0
          ·have HF:Hid (fO nt 0 [] ls=fO nt (k+1) (aX (ls.map dH) (k+1)) (ls.drop (k+1))):=lH (by rw[Hfk.out,Hat.out,if_neg HE.out,if_neg HL.out,if_neg (by rw[HM.out];decide),if_pos hst])
           go_wp2_with fail
           refine(c98 st _ _ _ hsl g4).mono ?_;rintro e w2 ⟨rfl,hb2⟩;rw[hst];have HQ4:=lH (HQ3.out.step hb2);clear hb2 hsl hst;go_wp2;exact⟨⟨k+1,by omega,rfl,HF.out,HQ4.out.below,HQ4.out.box⟩,by simp[intOf];omega⟩
          ·have HF:Hid (dA nt ls=bJ st):=lH (by rw[HH.out,Hfk.out,Hat.out,if_neg HE.out,if_neg HL.out,if_neg (by rw[HM.out];decide),if_neg hst])
           go_wp2_with fail
           refine(c98 st _ _ _ hsl g4).mono ?_;rintro e w2 ⟨rfl,hb2⟩;have HQ4:=lH (HQ3.out.step hb2);generalize bJ st=al at *;have hstb:(al != 0)=true:=by simpa using hst
           clear hb2 hsl hst;go_wp2;go_ret;exact⟨by rw[HF.out]<;>rfl,HQ4.out.below⟩
   ·have hke:ls.length<=k:=by omega
    go_wp2;go_ret;exact⟨by rw[HH.out,Hfk.out,Gy hke];rfl,hb⟩
theorem c63 (h:Int) (ta:Option aD) (nt tc:Nat) (la:Option aD) (ln lc:Nat) (pa:Option aD) (ps:List Pr) (pc:Nat) (w:wD) (hs:jv w pa ps) (hl:ps.length<=1000000) (hnt:nt<=1000000):
  Calls tP 62 #[.agg #[iN qi h,sL ta nt tc,sL la ln lc,sL pa ps.length pc]] w fun e w'=>e= .returned (iN qi (dR nt h ps))/\bX w.heap.size w w':=by
 have Hs:=lH hs;clear hs;by_cases h6:6<ps.length
 ·have HH:=lH (show dR (nt:Int) h ps=2 by unfold dR;rw[if_pos h6]);have h6':(6 :Int)<(ps.length:Int):=by omega
  go_enter Tryd.func62,Tryd.ntmps62;go_wp2;go_ret;exact⟨by rw[HH.out]<;>rfl,(bR _ _).alloc (nR _) _⟩
 ·have HH:=lH (show dR (nt:Int) h ps=fP nt h [] ps by unfold dR;rw[if_neg h6]);have h6': ¬(6 :Int)<(ps.length:Int):=by omega
  go_enter Tryd.func62,Tryd.ntmps62
  go_wp2_with fail
  go_loopw [3] (fun i wr=> ∃k:Nat,k<=ps.length/\i= iN qi (k:Int)/\fP nt h [] ps=fP nt h (aX (ps.map prP) k) (ps.drop k)/\bX w.heap.size w wr/\gI wr w.heap.size h (sL ta nt tc) (sL la ln lc) (sL pa ps.length pc)) (fun i _=>ps.length-(intOf i).toNat)
  case atStart=>exact⟨0,Nat.zero_le _,rfl,rfl,(bR _ _).alloc (nR _) _,by simp,by go_simp,by go_simp,by go_simp,by go_simp⟩
  case round=>
   obtain⟨k,hk,rfl,hfk,hb,hB⟩:=hrel;obtain⟨wB,hwB⟩: ∃wB,wB=wr:=⟨wr,rfl⟩;subst hwB;have Hfk:=lH hfk;have HB:=lH hB;clear hfk;obtain⟨q0,q1,q2,q3,q4⟩:=hB;by_cases hlt:k<ps.length
   ·have hx:ps[k]? =some ps[k]:=lG hlt;have hkl:(k:Int)<(ps.length:Int):=by omega
    obtain⟨b,o,sa,sc,e1,g0,g1,g2,g3,g4⟩:=Hs.out k _ hx;replace g0:=aoF hb g0 (nR _);replace g1:=aoF hb g1 (nR _);replace g2:=aoF hb g2 (nR _)
    cases e1
    have hat:=Gz (nt:=(nt:Int)) (hours:=h) hx;generalize ps[k]=L at *;obtain⟨x,y,st⟩:=L;simp only at g0 g1 g2 g3 g4 hat;have Hat:=lH hat;have HQ0:Hid (LkQ w (wB.alloc (.cells #[iN qi x,iN qi y,sL sa st.length sc] 68)) w.heap.size wB.heap.size h (sL ta nt tc) (sL la ln lc) (sL (some ⟨b,o,none⟩) ps.length pc) x y (sL sa st.length sc)):=lH
     ⟨hb.alloc hb.size _,HB.out.below ((bR _ _).alloc (nR _) _) q0,by simp,by go_simp,by go_simp,by go_simp⟩
    have Hst:Hid (SlB w sa st):=lH g3;clear hx hat g3;by_cases hE:btw x 0 ((nt:Int)-1)=false\/btw y 0 ((nt:Int)-1)=false
    ·have HF:Hid (dR nt h ps=6):=lH (by rw[HH.out,Hfk.out,Hat.out,if_pos hE]);have hal:oN nt x y=6:=if_pos hE;clear hE
     go_wp2_with fail
     refine(c97 h ta nt tc _ _ lc _ _ pc x y _ hnt).mono ?_;rintro e w1 ⟨rfl,hb1⟩;rw[hal];have HQ:=lH (HQ0.out.step hb1);clear hb1;go_wp2;go_ret;exact⟨by rw[HF.out]<;>rfl,HQ.out.below⟩
    ·have HE:=lH hE;have hal:oN nt x y=0:=if_neg hE;clear hE
     go_wp2_with fail
     refine(c97 h ta nt tc _ _ lc _ _ pc x y _ hnt).mono ?_;rintro e w1 ⟨rfl,hb1⟩;rw[hal];have HQ:=lH (HQ0.out.step hb1);obtain⟨_,⟨r0,r1,r2,r3,r4⟩,z4,d0,d1,d2⟩:=HQ.out;clear hb1 q0 q1 q2 q3 q4 hb g0 g1 g2 hal HQ0 HB;by_cases hxy:y<=x
     ·have HL:Hid (dR nt h ps=7):=lH (by rw[HH.out,Hfk.out,Hat.out,if_neg HE.out,if_pos hxy]);go_wp2;go_ret;exact⟨by rw[HL.out]<;>rfl,HQ.out.below⟩
     ·have HL:Hid (¬y<=x):=lH hxy;have HQ2:=HQ
      go_wp2_with fail
      go_loopw [6] (fun j wr=> ∃m:Nat,m<=k/\j= iN qi (m:Int)/\(∀i,i<m->(ps.map prP)[i]? ≠some (x,y))/\ ∃n,wr=w1.drewN n) (fun j _=>k-(intOf j).toNat)
      case atStart=>exact⟨0,Nat.zero_le _,rfl,fun i hi=>by omega,0,rfl⟩
      case round=>
       obtain⟨m,hm,rfl,hno,n,rfl⟩:=hrel;have Hno:=lH hno;clear hno;by_cases hmk:m<k
       ·have hmx:ps[m]? =some ps[m]:=lG (by omega);obtain⟨b',o',sa',sc',e1',j0,j1,_⟩:=(Hs.out.below HQ.out.below (nR _)) m _ hmx
        cases e1'
        have hmp:(ps.map prP)[m]? =some ((ps[m]).one,(ps[m]).two):=by rw[List.getElem?_map,hmx];rfl
        have Hmp:=lH hmp;have hml:(m:Int)<(ps.length:Int):=by omega
        clear hmx hmp;generalize (ps[m]).one=p at *;generalize (ps[m]).two=q at *;by_cases hp:p=x
        ·by_cases hq:q=y
         ·subst hp hq;have HM:Hid (bZ (aX (ps.map prP) k) p q=true):=lH ((tJ _ _ _ _).2 ⟨m,hmk,Hmp.out⟩);have HF:Hid (dR nt h ps=5):=lH (by rw[HH.out,Hfk.out,Hat.out,if_neg HE.out,if_neg (by have:=HL.out;omega),if_pos HM.out])
          go_wp2_with fail
          go_quiet (fail)
          go_wp2;go_ret;exact⟨by rw[HF.out]<;>rfl,by first |exact aV HQ.out.below _ |exact aV (aV HQ.out.below _) _⟩
         ·have hqb:(q==y)=false:=by simpa using hq
          have HN:Hid (∀i,i<m+1->(ps.map prP)[i]? ≠some (x,y)):=lH fun i hi=>by
           by_cases e:i=m
           ·subst e;rw[Hmp.out];simp[hq]
           ·exact Hno.out i (by omega)
          subst hp;clear hq
          go_wp2_with fail
          go_quiet (fail)
          go_wp2;exact⟨⟨m+1,by omega,rfl,HN.out,n+nq,rfl⟩,by simp[intOf];omega⟩
        ·have hpb:(p==x)=false:=by simpa using hp
         have HN:Hid (∀i,i<m+1->(ps.map prP)[i]? ≠some (x,y)):=lH fun i hi=>by
          by_cases e:i=m
          ·subst e;rw[Hmp.out];simp[hp]
          ·exact Hno.out i (by omega)
         clear hp
         go_wp2_with fail
         go_quiet (fail)
         go_wp2;exact⟨⟨m+1,by omega,rfl,HN.out,n+nq,rfl⟩,by simp[intOf];omega⟩
       ·have HM:Hid (bZ (aX (ps.map prP) k) x y=false):=lH (EJ fun i hi=>Hno.out i (by omega));have HQ3:=lH (HQ.out.dn n);by_cases hh:(st.length:Int)=h
        ·have hb1:((st.length:Int) != h)=false:=by simpa using hh
         have Hh:=lH hh;clear hh
         go_wp2_with fail
         obtain⟨wA,hwA⟩: ∃wA,wA=w1.drewN n:=⟨w1.drewN n,rfl⟩;rw[<-hwA];rw[<-hwA] at HQ3;clear hwA
         go_loopw [7] (fun j wr=> ∃m:Nat,m<=st.length/\j= iN qi (m:Int)/\(∀i y,i<m->st[i]? =some y->dw y=true)/\LkQ w wr w.heap.size wB.heap.size h (sL ta nt tc) (sL la ln lc) (sL (some ⟨b,o,none⟩) ps.length pc) x y (sL sa st.length sc)) (fun j _=>st.length-(intOf j).toNat)
         case atStart=>exact⟨0,Nat.zero_le _,rfl,fun i _ hi=>by omega,HQ3.out⟩
         case round=>
          obtain⟨m',hm',rfl,hno,hQ⟩:=hrel;have Hno2:=lH hno;have HQ4:=lH hQ;clear hno;obtain⟨_,⟨r0,r1,r2,r3,r4⟩,z4,d0,d1,d2⟩:=hQ;by_cases hml:m'<st.length
          ·have hmx:st[m']? =some st[m']:=lG hml;have hml2:(m':Int)<(st.length:Int):=by omega
           obtain⟨b',o',e1',j0,j1⟩:=(Hst.out.below HQ4.out.below (nR _)) m' _ hmx
           cases e1'
           have Hmx:=lH hmx;clear hmx;generalize st[m']=u at *;obtain⟨u1,u2⟩:=u;simp only at j0 j1
           cases hbk:dw (u1,u2) with
           |false=>
            have HF:Hid (dR nt h ps=1):=lH (by
             have:jc st=true:=by
              unfold jc;rw[List.any_eq_true];exact⟨_,List.mem_of_getElem? Hmx.out,by rw[hbk];rfl⟩
             rw[HH.out,Hfk.out,Hat.out,if_neg HE.out,if_neg (by have:=HL.out;omega),if_neg (by rw[HM.out];decide),if_pos Hh.out,if_pos this])
            go_wp2_with fail
            refine(c99 u1 u2 _).mono ?_;rintro e w2 ⟨rfl,hb2⟩;rw[hbk];have HQ5:=lH (HQ4.out.step hb2);clear hb2;go_wp2;go_ret;exact⟨by rw[HF.out]<;>rfl,HQ5.out.below⟩
           |true=>
            have HN:Hid (∀i y,i<m'+1->st[i]? =some y->dw y=true):=lH fun i y hi hy=>by
             by_cases e:i=m'
             ·subst e;rw[Hmx.out] at hy;cases hy;exact hbk
             ·exact Hno2.out i y (by omega) hy
            go_wp2_with fail
            refine(c99 u1 u2 _).mono ?_;rintro e w2 ⟨rfl,hb2⟩;rw[hbk];have HQ5:=lH (HQ4.out.step hb2);clear hb2;go_wp2;exact⟨⟨m'+1,by omega,rfl,HN.out,HQ5.out⟩,by simp[intOf];omega⟩
          ·have hml2: ¬(m':Int)<(st.length:Int):=by omega
           have HF:Hid (fP nt h [] ps=fP nt h (aX (ps.map prP) (k+1)) (ps.drop (k+1))):=lH (by
            have:jc st=false:=by
             unfold jc;rw[List.any_eq_false];intro y hy;obtain⟨i,hi,rfl⟩:=List.getElem_of_mem hy;have:=Hno2.out i _ (by omega) (lG hi);rw[this];decide
            rw[Hfk.out,Hat.out,if_neg HE.out,if_neg (by have:=HL.out;omega),if_neg (by rw[HM.out];decide),if_pos Hh.out,if_neg (by rw[this];decide)])
           go_wp2;exact⟨⟨k+1,by omega,rfl,HF.out,HQ4.out.below,HQ4.out.box⟩,by simp[intOf];omega⟩
        ·have hb1:((st.length:Int) != h)=true:=by simpa using hh
         have HF:Hid (dR nt h ps=2):=lH (by rw[HH.out,Hfk.out,Hat.out,if_neg HE.out,if_neg (by have:=HL.out;omega),if_neg (by rw[HM.out];decide),if_neg hh]);clear hh
         go_wp2_with fail
         go_ret;exact⟨by rw[HF.out]<;>rfl,HQ3.out.below⟩
   ·have hke:ps.length<=k:=by omega
    go_wp2;go_ret;exact⟨by rw[HH.out,Hfk.out,GH hke];rfl,hb⟩
theorem MI {α:Type} {p:α->Bool} {t:α} (hp:p t=true): ∀(l:List α) (i k:Nat),l[k]? =some t->(firstAt p l i<((i+k:Nat):Int)↔(l.take k).any p=true)
 | [],_,k,h=>by simp at h
 |x::l,i,0,h=>by
  simp only[List.getElem?_cons_zero,Option.some.injEq] at h;subst h;unfold firstAt;rw[if_pos hp];simp
 |x::l,i,k+1,h=>by
  have ih:=MI hp l (i+1) k (by simpa using h);unfold firstAt;rw[List.take_succ_cons,List.any_cons];by_cases e:p x=true
  ·rw[if_pos e,e];simp only[Bool.true_or,iff_true];omega
  ·have e':p x=false:=by simpa using e
   rw[if_neg e,e',Bool.false_or,<-ih,show i+1+k=i+(k+1) by omega]
theorem c61 (ts:List ByteArray) (ta:Option aD) (tc:Nat) (w:wD) (hs:SlS w ta ts) (hl:ts.length<=1000000) (hz: ∀t∈ts,t.size<=1000000):
  Calls tP 60 #[sL ta ts.length tc] w fun e w'=>e= .returned (iN qi (fM ts))/\w=w':=by
 have Hs:=lH hs;have Hz:=lH hz;clear hs hz
 cases h1:btw (ts.length:Int) 2 4 with
 |false=>
  have HH:=lH (show fM ts=2 by unfold fM;rw[h1];rfl);go_enter Tryd.func60,Tryd.ntmps60
  go_wp2_with (go_at_call 59;refine(gU _ _ _ _).mono ?_;rintro e w' ⟨rfl,rfl⟩)
  go_ret;exact⟨by rw[HH.out]<;>rfl,rfl⟩
 |true=>
  have HH:=lH (show fM ts=gG [] ts by unfold fM;rw[h1];rfl);go_enter Tryd.func60,Tryd.ntmps60
  go_wp2_with (go_at_call 59;refine(gU _ _ _ _).mono ?_;rintro e w' ⟨rfl,rfl⟩)
  go_loopw [3] (fun i wr=> ∃k:Nat,k<=ts.length/\i= iN qi (k:Int)/\gG [] ts=gG (ts.take k) (ts.drop k)/\w=wr) (fun i _=>ts.length-(intOf i).toNat)
  case atStart=>exact⟨0,Nat.zero_le _,rfl,rfl,rfl⟩
  case round=>
   obtain⟨k,hk,rfl,hfk,rfl⟩:=hrel;have Hfk:=lH hfk;clear hfk;by_cases hlt:k<ts.length
   ·have hx:ts[k]? =some ts[k]:=lG hlt;obtain⟨b,o,rfl,g0⟩:=Hs.out k _ hx;have hzt:=Hz.out _ (List.mem_of_getElem? hx);generalize ts[k]=t at *;have Hat:=lH (Gn hx);have HFl:=lH (MI (p:=fun x=>t.toList==x.toList) (by simp) ts 0 k hx);clear hx
    cases hno:gB t with
    |false=>
     have HF:Hid (fM ts=4):=lH (by rw[HH.out,Hfk.out,Hat.out,hno];rfl)
     go_wp2_with (go_at_call 79;refine(c95 _ hzt _).mono ?_;rintro e w1 ⟨rfl,rfl⟩)
     go_ret;exact⟨by rw[HF.out]<;>rfl,rfl⟩
    |true=>
     cases hdu:pO (ts.take k) t with
     |true=>
      have HF:Hid (fM ts=5):=lH (by rw[HH.out,Hfk.out,Hat.out,hno,hdu];rfl);have hlt2:firstAt (fun x=>t.toList==x.toList) ts 0<(k:Int):=by have:=HFl.out.2 hdu;omega
      go_wp2_with (first | (go_at_call 79;refine(c95 _ hzt _).mono ?_;rintro e w1 ⟨rfl,rfl⟩) | (go_at_call 80;refine(c96 _ _ _ _ _ Hs.out hl).mono ?_;rintro e w1 ⟨rfl,rfl⟩))
      go_ret;exact⟨by rw[HF.out]<;>rfl,rfl⟩
     |false=>
      have HF:Hid (gG [] ts=gG (ts.take (k+1)) (ts.drop (k+1))):=lH (by rw[Hfk.out,Hat.out,hno,hdu];rfl);have hlt2: ¬firstAt (fun x=>t.toList==x.toList) ts 0<(k:Int):=fun h=>by
       have:=HFl.out.1 (by omega);unfold pO at hdu;rw[hdu] at this;cases this
      go_wp2_with (first | (go_at_call 79;refine(c95 _ hzt _).mono ?_;rintro e w1 ⟨rfl,rfl⟩) | (go_at_call 80;refine(c96 _ _ _ _ _ Hs.out hl).mono ?_;rintro e w1 ⟨rfl,rfl⟩))
      exact⟨⟨k+1,by omega,rfl,HF.out,trivial⟩,by simp[intOf];omega⟩
   ·have hke:ts.length<=k:=by omega
    go_wp2;go_ret;exact⟨by rw[HH.out,Hfk.out,Gp hke];rfl,rfl⟩
theorem c20 (V:BkV) (B:Bk) (w:wD) (hs:aB w V B) (hz: ∀t∈B.towns,t.size<=1000000):Calls tP 33 #[V.val B] w fun e w'=>e= .returned (iN qi B.alarm)/\bX w.heap.size w w':=by
 obtain⟨ta,la,pa,tc,lc,pc⟩:=V;have Hs:=lH hs;have Hz:=lH hz;clear hs hz;have HA:Hid (B.alarm=kH B 4 0):=rfl;by_cases h0:iZ B.hours=0
 ·have hb0:btw B.hours 1 3=true:=by
   unfold iZ at h0
   cases e:btw B.hours 1 3 with
   |true=>rfl
   |false=>rw[e] at h0;cases h0
  by_cases h1:fM B.towns=0
  ·by_cases h2:dA B.towns.length B.links=0
   ·have HF:Hid (B.alarm=dR B.towns.length B.hours B.pairs):=lH (by
     rw[HA.out];simp only[kH,alK];rw[if_pos h0,if_pos h1,if_pos h2]
     split
     ·rename_i h;exact h.symm
     ·rfl)
    clear h0;go_enter Tryd.func33,Tryd.ntmps33
    go_wp2_with (first | (go_at_call 59;refine(gU _ _ _ _).mono ?_;rintro e w1 ⟨rfl,rfl⟩) |fail)
    generalize hWe:w.alloc (.cells #[iN qi B.hours,sL ta B.towns.length tc,sL la B.links.length lc,sL pa B.pairs.length pc] 26)=W;have HbW:Hid (bX w.heap.size w W):=lH (by subst hWe;exact(bR _ _).alloc (nR _) _);have HBx:Hid (gI W w.heap.size B.hours (sL ta B.towns.length tc) (sL la B.links.length lc) (sL pa B.pairs.length pc)):=lH (by subst hWe;exact⟨by simp,by go_simp,by go_simp,by go_simp,by go_simp⟩);clear hWe;refine(c61 B.towns ta tc W (Hs.out.towns.below HbW.out (nR _)) Hs.out.nt Hz.out).mono ?_;rintro e w1 ⟨rfl,rfl⟩;rw[h1];obtain⟨q0,q1,q2,q3,q4⟩:=HBx.out
    go_wp2_with fail
    refine(c62 B.hours ta B.towns.length tc la B.links lc pa B.pairs.length pc W (Hs.out.links.below HbW.out (nR _)) Hs.out.nl Hs.out.nt).mono ?_;rintro e w2 ⟨rfl,hb2⟩;rw[h2];have HbW2:=lH (HbW.out.trans (hb2.mono HbW.out.size));have HBx2:=lH (HBx.out.below hb2 q0);clear hb2 q0 q1 q2 q3 q4;obtain⟨q0,q1,q2,q3,q4⟩:=HBx2.out
    go_wp2_with fail
    refine(c63 B.hours ta B.towns.length tc la B.links.length lc pa B.pairs pc w2 (Hs.out.pairs.below HbW2.out (nR _)) Hs.out.np Hs.out.nt).mono ?_;rintro e w3 ⟨rfl,hb3⟩;have HbW3:=lH (HbW2.out.trans (hb3.mono HbW2.out.size));rw[<-HF.out];generalize hE:B.alarm=al at *;have HE:=lH hE;clear hE;clear hb3 q0 q1 q2 q3 q4;go_wp2;go_ret;exact⟨by rw[HE.out]<;>rfl,HbW3.out⟩
   ·have HF:Hid (B.alarm=dA B.towns.length B.links):=lH (by
     rw[HA.out];simp only[kH,alK];rw[if_pos h0,if_pos h1,if_neg h2])
    clear h0;go_enter Tryd.func33,Tryd.ntmps33
    go_wp2_with (first | (go_at_call 59;refine(gU _ _ _ _).mono ?_;rintro e w1 ⟨rfl,rfl⟩) |fail)
    generalize hWe:w.alloc (.cells #[iN qi B.hours,sL ta B.towns.length tc,sL la B.links.length lc,sL pa B.pairs.length pc] 26)=W;have HbW:Hid (bX w.heap.size w W):=lH (by subst hWe;exact(bR _ _).alloc (nR _) _);have HBx:Hid (gI W w.heap.size B.hours (sL ta B.towns.length tc) (sL la B.links.length lc) (sL pa B.pairs.length pc)):=lH (by subst hWe;exact⟨by simp,by go_simp,by go_simp,by go_simp,by go_simp⟩);clear hWe;refine(c61 B.towns ta tc W (Hs.out.towns.below HbW.out (nR _)) Hs.out.nt Hz.out).mono ?_;rintro e w1 ⟨rfl,rfl⟩;rw[h1];obtain⟨q0,q1,q2,q3,q4⟩:=HBx.out
    go_wp2_with fail
    refine(c62 B.hours ta B.towns.length tc la B.links lc pa B.pairs.length pc W (Hs.out.links.below HbW.out (nR _)) Hs.out.nl Hs.out.nt).mono ?_;rintro e w2 ⟨rfl,hb2⟩;have HbW2:=lH (HbW.out.trans (hb2.mono HbW.out.size));rw[<-HF.out];rw[<-HF.out] at h2;generalize hE:B.alarm=al at *;have HE:=lH hE;clear hE;have h2b:(al != 0)=true:=by simpa using h2
    clear hb2 q0 q1 q2 q3 q4 h2;go_wp2;go_ret;exact⟨by rw[HE.out]<;>rfl,HbW2.out⟩
  ·have HF:Hid (B.alarm=fM B.towns):=lH (by
    rw[HA.out];simp only[kH,alK];rw[if_pos h0,if_neg h1])
   clear h0;go_enter Tryd.func33,Tryd.ntmps33
   go_wp2_with (first | (go_at_call 59;refine(gU _ _ _ _).mono ?_;rintro e w1 ⟨rfl,rfl⟩) |fail)
   generalize hWe:w.alloc (.cells #[iN qi B.hours,sL ta B.towns.length tc,sL la B.links.length lc,sL pa B.pairs.length pc] 26)=W;have HbW:Hid (bX w.heap.size w W):=lH (by subst hWe;exact(bR _ _).alloc (nR _) _);clear hWe;refine(c61 B.towns ta tc W (Hs.out.towns.below HbW.out (nR _)) Hs.out.nt Hz.out).mono ?_;rintro e w1 ⟨rfl,rfl⟩;rw[<-HF.out];rw[<-HF.out] at h1;generalize hE:B.alarm=al at *;have HE:=lH hE;clear hE;have h1b:(al != 0)=true:=by simpa using h1
   clear h1;go_wp2;go_ret;exact⟨by rw[HE.out]<;>rfl,HbW.out⟩
 ·have hb0:btw B.hours 1 3=false:=by
   unfold iZ at h0
   cases e:btw B.hours 1 3 with
   |false=>rfl
   |true=>rw[e] at h0;exact absurd rfl h0
  have HF:Hid (B.alarm=1):=lH (by
   rw[HA.out];simp only[kH,alK];rw[if_neg h0];unfold iZ;rw[hb0];rfl)
  go_enter Tryd.func33,Tryd.ntmps33
  go_wp2_with (go_at_call 59;refine(gU _ _ _ _).mono ?_;rintro e w1 ⟨rfl,rfl⟩)
  go_ret;exact⟨by rw[HF.out]<;>rfl,(bR _ _).alloc (nR _) _⟩
end Go.Proofs.YtfiiffnbggnkfaaDoor
namespace Go.Proofs.YtfiiffnbggnkfaaDoor
open Go.RowKit Go.Rent Go.Tp Go.Conc Go.Deep Go.ChangeShapes Go.WideShapes Go.Joins
theorem tK {α:Type} {P:Nat->α->Prop}: ∀(n:Nat),(∀i,i<n-> ∃x,P i x)-> ∃l:List α,l.length=n/\ ∀i x,l[i]? =some x->P i x
 | 0,_=>⟨[],rfl,fun i x h=>by simp at h⟩
 |n+1,h=>by
  obtain⟨l,hl,hp⟩:=tK n fun i hi=>h i (by omega);obtain⟨x,hx⟩:=h n (Nat.lt_succ_self n);refine⟨l++ [x],by simp[hl],fun i y hy=> ?_⟩;by_cases e:i<n
  ·rw[List.getElem?_append_left (by omega)] at hy;exact hp i y hy
  ·have hi:i=n:=by have:=(lS.1 hy).1;simp at this;omega
   subst hi;rw[List.getElem?_append_right (by omega),hl,Nat.sub_self] at hy
   cases hy
   exact hx
theorem Bz (b o n:Nat):(⟨b,o,none⟩:aD).add n=⟨b,o+n,none⟩:=by
 unfold Addr.add
 split
 ·rename_i h;subst h;rfl
 ·rfl
theorem BA {w:wD} {a:aD} {v:vL} (h:w.cell? (a.add 0)=some v):a=⟨a.block,a.off,none⟩:=by
 have:=World.cell?_spot h;obtain⟨b,o,s⟩:=a;have e:s=none:=by simpa[Addr.add] using this
 subst e;rfl
section
variable {H:Type} {enc:TypeId×vL->H} {P:Program} {w:wD} {base:Nat} {spare:Nat->Bool} {held:Bool}
theorem MJ {t e:TypeId} {f0 f1:Field} {fuel:Nat} {cs:List vL} {x:DataW H×List MemPlace} (ht:P.underlying t=some (.slice e)) (he:P.underlying e=some (.struct #[f0,f1]))
  (ce:P.cellsOf e=2) (o0:f0.offset=0) (o1:f1.offset=1) (c0:P.cellsOf f0.type=1) (c1:P.cellsOf f1.type=1) (k0:P.underlying f0.type=some (.int qi)) (k1:P.underlying f1.type=some (.int qi))
  (h:DataW.trod enc P w base spare held fuel t cs=some x): ∃sa l cap,cs= [sL sa (List.length l) cap]/\SlB w sa l/\l.length<=cap/\cap<=maxLen/\(sa=none->cap=0):=by
 rcases open_slice_pairs ht he ce o0 o1 c0 c1 h with ⟨rfl,_⟩ |⟨a,len,cap,m,n,V0,V1,D0,D1,P0,P1,rfl,hb,hl,hm,hmm,_,hx⟩
 ·exact⟨none,[],0,rfl,fun i x h=>by simp at h,nR _,Nat.zero_le _,fun _=>rfl⟩
 ·have hlm:len<=m:=by rw[hmm];split<;>omega
  obtain⟨l,hll,hp⟩:=tK len (P:=fun i (y:Int×Int)=>w.cell? (a.add (i*2))=some (iN qi y.1)/\w.cell? (a.add (i*2+1))=some (iN qi y.2)) (fun i hi=>by
   obtain⟨h0,h1,h2,h3⟩:=hx i (by omega);obtain⟨p,e0,_⟩:=DataW.trod_int k0 h2;obtain⟨q,e1,_⟩:=DataW.trod_int k1 h3;simp only[List.cons.injEq,and_true] at e0 e1;exact⟨(p,q),by rw[h0,e0],by rw[h1,e1]⟩)
  refine⟨some a,l,cap,by rw[hll],fun i y hy=> ?_,by rw[hll];exact hl,hm,fun h=>by cases h⟩;have hi:=(lS.1 hy).1;have z0:=(hp 0 _ (lG (by omega))).1;rw[Nat.zero_mul] at z0;have ea:=BA z0;obtain⟨g0,g1⟩:=hp i y hy;rw[ea,Bz] at g0 g1;exact⟨a.block,a.off,by rw[<-ea],g0,g1⟩
theorem ML {t e:TypeId} {f0 f1 f2:Field} {fuel:Nat} {cs:List vL} {x:DataW H×List MemPlace} (ht:P.underlying t=some (.slice e)) (he:P.underlying e=some (.struct #[f0,f1,f2]))
  (ce:P.cellsOf e=3) (o:f0.offset=0/\f1.offset=1/\f2.offset=2) (c:P.cellsOf f0.type=1/\P.cellsOf f1.type=1/\P.cellsOf f2.type=1) (k0:P.underlying f0.type=some (.int qi)) (k1:P.underlying f1.type=some (.int qi))
  (h2: ∀n cs x,DataW.trod enc P w base spare held n f2.type cs=some x-> ∃sa l cap,cs= [sL sa (List.length l) cap]/\SlB w sa l/\l.length<=cap/\cap<=maxLen/\(sa=none->cap=0))
  (h:DataW.trod enc P w base spare held fuel t cs=some x): ∃(sa:Option aD) (l:List (Int×Int×List (Int×Int))) (cap:Nat),cs= [sL sa l.length cap]/\l.length<=cap/\cap<=maxLen/\(sa=none->cap=0)/\
   ∀(i:Nat) (y:Int×Int×List (Int×Int)),l[i]? =some y-> ∃b o sa' sc,sa=some ⟨b,o,none⟩/\w.cell? ⟨b,o+i*3,none⟩=some (iN qi y.1)/\w.cell? ⟨b,o+i*3+1,none⟩=some (iN qi y.2.1)/\w.cell? ⟨b,o+i*3+2,none⟩=some (sL sa' y.2.2.length sc)/\SlB w sa' y.2.2/\y.2.2.length<=maxLen:=by
 obtain⟨o0,o1,o2⟩:=o;obtain⟨c0,c1,c2⟩:=c
 rcases open_slice ht h with ⟨rfl,_⟩ |⟨a,len,cap,m,n,D,Pl,rfl,hb,hl,hm,hmm,_,hx⟩
 ·exact⟨none,[],0,rfl,nR _,Nat.zero_le _,fun _=>rfl,fun i x h=>by simp at h⟩
 ·have hlm:len<=m:=by rw[hmm];split<;>omega
  obtain⟨l,hll,hp⟩:=tK len (P:=fun i (y:Int×Int×List (Int×Int))=> ∃sa' sc,w.cell? (a.add (i*3))=some (iN qi y.1)/\w.cell? (a.add (i*3+1))=some (iN qi y.2.1)/\w.cell? (a.add (i*3+2))=some (sL sa' y.2.2.length sc)/\SlB w sa' y.2.2/\y.2.2.length<=maxLen) (fun i hi=>by
   obtain⟨cs',hc,ht'⟩:=hx i (by omega);rw[ce] at hc;obtain⟨ys,n',hn',_,hlen,hyl,hf⟩:=DataW.trod_struct he ht';obtain⟨_,hcl,hat⟩:=World.cells?_some hc
   match cs',hcl with
   | [v0,v1,v2],_=>
    have q0:=hf 0 f0 rfl;have q1:=hf 1 f1 rfl;have q2:=hf 2 f2 rfl;rw[o0,c0] at q0;rw[o1,c1] at q1;rw[o2,c2] at q2;have hy3:ys.length=3:=hyl;rw[lG (by omega)] at q0 q1 q2;obtain⟨p,e0,_⟩:=DataW.trod_int k0 q0;obtain⟨q,e1,_⟩:=DataW.trod_int k1 q1;obtain⟨sa',l',sc,e2,hs,hle,hmx,_⟩:=h2 _ _ _ q2;have r0:=hat 0 (by omega);have r1:=hat 1 (by omega);have r2:=hat 2 (by omega);rw[add_add] at r0 r1 r2;simp at e0 e1 e2 r0 r1 r2;subst e0 e1 e2;exact⟨(p,q,l'),sa',sc,r0,r1,r2,hs,Nat.le_trans hle hmx⟩)
  refine⟨some a,l,cap,by rw[hll],by rw[hll];exact hl,hm,(fun h=>by cases h),fun i y hy=> ?_⟩;have hi:=(lS.1 hy).1;obtain⟨_,_,z0,_⟩:=hp 0 _ (lG (by omega));rw[Nat.zero_mul] at z0;have ea:=BA z0;obtain⟨sa',sc,g0,g1,g2,g3,g4⟩:=hp i y hy;rw[ea,Bz] at g0 g1 g2;exact⟨a.block,a.off,sa',sc,by rw[<-ea],g0,g1,g2,g3,g4⟩
theorem open_strs {t e:TypeId} {fuel:Nat} {cs:List vL} {x:DataW H×List MemPlace} (ht:P.underlying t=some (.slice e)) (he:P.underlying e=some .string) (ce:P.cellsOf e=1)
  (h:DataW.trod enc P w base spare held fuel t cs=some x): ∃(sa:Option aD) (l:List ByteArray) (cap:Nat),cs= [sL sa l.length cap]/\l.length<=cap/\cap<=maxLen/\SlS w sa l/\ ∀t∈l,t.size<=maxLen:=by
 rcases open_slice1 ht ce h with ⟨rfl,_⟩ |⟨a,len,cap,m,n,V,D,Pl,rfl,hb,hl,hm,hmm,_,hx⟩
 ·exact⟨none,[],0,rfl,nR _,Nat.zero_le _,fun i x h=>by simp at h,fun t h=>by cases h⟩
 ·have hlm:len<=m:=by rw[hmm];split<;>omega
  obtain⟨l,hll,hp⟩:=tK len (P:=fun i (y:ByteArray)=>w.cell? (a.add i)=some (.string y)/\y.size<=maxLen) (fun i hi=>by
   obtain⟨h0,h2⟩:=hx i (by omega);obtain⟨s,e0,_,hz⟩:=DataW.trod_string he h2;simp only[List.cons.injEq,and_true] at e0;exact⟨s,by rw[h0,e0],hz⟩)
  refine⟨some a,l,cap,by rw[hll],by rw[hll];exact hl,hm,fun i y hy=> ?_,fun t ht=> ?_⟩
  ·have hi:=(lS.1 hy).1;have z0:=(hp 0 _ (lG (by omega))).1;have ea:=BA z0;obtain⟨g0,_⟩:=hp i y hy;rw[ea,Bz] at g0;exact⟨a.block,a.off,by rw[<-ea],g0⟩
  ·obtain⟨i,hi,rfl⟩:=List.getElem_of_mem ht;exact(hp i _ (lG hi)).2
end
structure iw (w:wD) (V:BkV) (B:Bk):Prop where
 towns:SlS w V.ta B.towns
 links: ∀(i:Nat) (L:Lnk),B.links[i]? =some L-> ∃b o sa sc,V.la=some ⟨b,o,none⟩/\w.cell? ⟨b,o+i*3,none⟩=some (iN qi L.one)/\w.cell? ⟨b,o+i*3+1,none⟩=some (iN qi L.two)/\w.cell? ⟨b,o+i*3+2,none⟩=some (sL sa L.steps.length sc)/\SlB w sa L.steps/\L.steps.length<=maxLen
 pairs: ∀(i:Nat) (L:Pr),B.pairs[i]? =some L-> ∃b o sa sc,V.pa=some ⟨b,o,none⟩/\w.cell? ⟨b,o+i*3,none⟩=some (iN qi L.one)/\w.cell? ⟨b,o+i*3+1,none⟩=some (iN qi L.two)/\w.cell? ⟨b,o+i*3+2,none⟩=some (sL sa L.calls.length sc)/\SlB w sa L.calls/\L.calls.length<=maxLen
 tc:B.towns.length<=V.tc/\V.tc<=maxLen
 nl:B.links.length<=maxLen
 np:B.pairs.length<=maxLen
 sz: ∀t∈B.towns,t.size<=maxLen
 pc:V.pa=none->V.pc=0
theorem ZC {H:Type} {enc:TypeId×vL->H} {w:wD} {base b0:Nat} {spare:Nat->Bool} {held:Bool} {r:Reach} {v:vL} {d:DataW H} {p:List MemPlace}
  (hv:Value.okWide tP w r b0 26 v) (h:DataW.Trod enc tP w base spare held 26 v d p): ∃V B,v=V.val B/\iw w V B/\fH w V:=by
 obtain⟨v0,v1,v2,v3,y0,y1,y2,y3,n,rfl,_,_,h0,h1,h2,h3⟩:=open_agg4 (P:=tP) Tryd.underlying26 (by kernel_rfl) (by kernel_rfl) hv h;obtain⟨hh,e0,_⟩:=DataW.trod_int Tryd.underlying3 h0;obtain⟨ta,tl,tc,e1,t1,t2,t3,t4⟩:=open_strs Tryd.underlying22 Tryd.underlying9 (by kernel_rfl) h1;obtain⟨la,ll,lc,e2,l1,l2,l3,l4⟩:=ML Tryd.underlying23 Tryd.underlying79 (by kernel_rfl) ⟨rfl,rfl,rfl⟩ ⟨by kernel_rfl,by kernel_rfl,by kernel_rfl⟩ Tryd.underlying3 Tryd.underlying3 (fun n cs x=>MJ Tryd.underlying77 Tryd.underlying76 (by kernel_rfl) rfl rfl (by kernel_rfl) (by kernel_rfl) Tryd.underlying3 Tryd.underlying3) h2;obtain⟨pa,pl,pc,e3,p1,p2,p3,p4⟩:=ML Tryd.underlying24 Tryd.underlying68 (by kernel_rfl) ⟨rfl,rfl,rfl⟩ ⟨by kernel_rfl,by kernel_rfl,by kernel_rfl⟩ Tryd.underlying3 Tryd.underlying3 (fun n cs x=>MJ Tryd.underlying27 Tryd.underlying33 (by kernel_rfl) rfl rfl (by kernel_rfl) (by kernel_rfl) Tryd.underlying3 Tryd.underlying3) h3;simp only[List.cons.injEq,and_true] at e0 e1 e2 e3;subst e0 e1 e2 e3;refine⟨⟨ta,la,pa,tc,lc,pc⟩,⟨hh,tl,ll.map fun y=>⟨y.1,y.2.1,y.2.2⟩,pl.map fun y=>⟨y.1,y.2.1,y.2.2⟩⟩,by simp[BkV.val],⟨t3,fun i L hL=> ?_,fun i L hL=> ?_,⟨t1,t2⟩,by simp;omega,by simp;omega,t4,p3⟩, ?_⟩
 ·rw[List.getElem?_map,Option.map_eq_some_iff] at hL;obtain⟨y,hy,rfl⟩:=hL;exact l4 i y hy
 ·rw[List.getElem?_map,Option.map_eq_some_iff] at hL;obtain⟨y,hy,rfl⟩:=hL;exact p4 i y hy
 ·simp only[Value.okWide,Tryd.underlying26] at hv;obtain⟨cs,ecs,_,ts,hts,_,hok⟩:=hv
  cases ecs
  have hts':tP.cellTypes tP.depth 26=some [3,22,23,24]:=by kernel_rfl
  rw[hts'] at hts
  cases hts
  have row: ∀(i:Nat) (sa:Option aD) (l c:Nat) (u e:TypeId),(#[Value.int qi hh,sL ta tl.length tc,sL la ll.length lc,sL pa pl.length pc]:Array vL)[i]? =some (sL sa l c)->([3,22,23,24]:List TypeId)[i % 4]? =some u->tP.underlying u=some (.slice e)->bG w sa:=by
   intro i sa l c u e h1 h2 h3 a ha;obtain⟨u',hu,hc⟩:=hok i _ h1;have:u'=u:=by
    have:([3,22,23,24]:List TypeId).length=4:=rfl;rw[this,h2] at hu;exact(Option.some.inj hu).symm
   subst this ha;simp only[Cell.okWide,h3,Cell.ok] at hc;obtain⟨_,_,_,_,rw',cells,hsh,_⟩:=hc;unfold World.shape? at hsh
   split at hsh
   ·rename_i c t z hz;exact⟨c,t,z,hz⟩
   ·cases hsh
  exact⟨row 1 _ _ _ _ _ rfl rfl Tryd.underlying22,row 2 _ _ _ _ _ rfl rfl Tryd.underlying23,row 3 _ _ _ _ _ rfl rfl Tryd.underlying24⟩
end Go.Proofs.YtfiiffnbggnkfaaDoor
namespace Go.Proofs.YtfiiffnbggnkfaaDoor
open Go.RowKit Go.Rent Go.Tp Go.Conc
theorem iw.below {n:Nat} {w w':wD} {V:BkV} {B:Bk} (h:iw w V B) (hb:bX n w w') (hn:w.heap.size<=n):iw w' V B:=
 ⟨h.towns.below hb hn,fun i L hL=>by
  obtain⟨b,o,sa,sc,h1,h2,h3,h4,h5,h6⟩:=h.links i L hL;exact⟨b,o,sa,sc,h1,aoF hb h2 hn,aoF hb h3 hn,aoF hb h4 hn,h5.below hb hn,h6⟩,fun i L hL=>by
  obtain⟨b,o,sa,sc,h1,h2,h3,h4,h5,h6⟩:=h.pairs i L hL;exact⟨b,o,sa,sc,h1,aoF hb h2 hn,aoF hb h3 hn,aoF hb h4 hn,h5.below hb hn,h6⟩,h.tc,h.nl,h.np,h.sz,h.pc⟩
def dP (B:Bk):Bool:=decide (20<B.towns.length)||decide (20<B.links.length)||decide (20<B.pairs.length)||(B.towns.any fun t=>decide (100<t.size))||(B.links.any fun L=>decide (20<L.steps.length))||B.pairs.any fun L=>decide (20<L.calls.length)
theorem EK {α:Type} {p:α->Bool} {l:List α} {k:Nat} {x:α} (h:l[k]? =some x) (hp:p x=true):l.any p=true:=List.any_eq_true.2 ⟨x,List.mem_of_getElem? h,hp⟩
theorem any_none {α:Type} {p:α->Bool} {l:List α} (h: ∀j x,j<l.length->l[j]? =some x->p x=false):l.any p=false:=by
 rw[List.any_eq_false];intro x hx;obtain⟨j,hj,rfl⟩:=List.getElem_of_mem hx;rw[h j _ hj (lG hj)];decide
theorem iw.in {w:wD} {V:BkV} {B:Bk} (h:iw w V B) (hg:dP B=false):aB w V B/\ ∀t∈B.towns,t.size<=100:=by
 unfold dP at hg;simp only[Bool.or_eq_false_iff,decide_eq_false_iff_not,List.any_eq_false,decide_eq_true_eq] at hg;obtain⟨⟨⟨⟨⟨g1,g2⟩,g3⟩,g4⟩,g5⟩,g6⟩:=hg;refine⟨⟨h.towns,fun i L hL=> ?_,fun i L hL=> ?_,by omega,by omega,by omega,h.tc.1,by have:=h.tc.2;unfold maxLen at this;omega⟩,fun t ht=>by have:=g4 t ht;omega⟩
 ·obtain⟨b,o,sa,sc,h1,h2,h3,h4,h5,_⟩:=h.links i L hL;exact⟨b,o,sa,sc,h1,h2,h3,h4,h5,by have:=g5 L (List.mem_of_getElem? hL);omega⟩
 ·obtain⟨b,o,sa,sc,h1,h2,h3,h4,h5,_⟩:=h.pairs i L hL;exact⟨b,o,sa,sc,h1,h2,h3,h4,h5,by have:=g6 L (List.mem_of_getElem? hL);omega⟩
theorem c14 (V:BkV) (B:Bk) (w:wD) (hs:iw w V B):Calls tP 32 #[V.val B] w fun e w'=>e= .returned (.bool (dP B))/\bX w.heap.size w w':=by
 obtain⟨ta,la,pa,tc,lc,pc⟩:=V;have hN:=hs.tc;have hN2:=hs.nl;have hN3:=hs.np;unfold maxLen at hN hN2 hN3;have Hs:=lH hs;clear hs;have HB0: ∀o:Obj,bX w.heap.size w (w.alloc o):=fun o=>(bR _ _).alloc (nR _) _;by_cases n1:20<B.towns.length
 ·have HF:Hid (dP B=true):=lH (by simp[dP,n1]);have i1:(20 :Int)<(B.towns.length:Int):=by omega
  go_enter Tryd.func32,Tryd.ntmps32;go_wp2;go_ret;exact⟨by rw[HF.out]<;>rfl,HB0 _⟩
 ·have i1: ¬(20 :Int)<(B.towns.length:Int):=by omega
  by_cases n2:20<B.links.length
  ·have HF:Hid (dP B=true):=lH (by simp[dP,n2]);have i2:(20 :Int)<(B.links.length:Int):=by omega
   go_enter Tryd.func32,Tryd.ntmps32;go_wp2;go_ret;exact⟨by rw[HF.out]<;>rfl,HB0 _⟩
  ·have i2: ¬(20 :Int)<(B.links.length:Int):=by omega
   by_cases n3:20<B.pairs.length
   ·have HF:Hid (dP B=true):=lH (by simp[dP,n3]);have i3:(20 :Int)<(B.pairs.length:Int):=by omega
    go_enter Tryd.func32,Tryd.ntmps32;go_wp2;go_ret;exact⟨by rw[HF.out]<;>rfl,HB0 _⟩
   ·have i3: ¬(20 :Int)<(B.pairs.length:Int):=by omega
    have HN:=lH (And.intro n1 (And.intro n2 n3));clear hN hN2 hN3;go_enter Tryd.func32,Tryd.ntmps32
    go_wp2_with fail
    obtain⟨W,hW⟩: ∃W,W=w.alloc (.cells #[iN qi B.hours,sL ta B.towns.length tc,sL la B.links.length lc,sL pa B.pairs.length pc] 26):=⟨_,rfl⟩;have k1:W.cell? ⟨w.heap.size,1,none⟩=some (sL ta B.towns.length tc):=by subst hW;go_simp
    have k2:W.cell? ⟨w.heap.size,2,none⟩=some (sL la B.links.length lc):=by subst hW;go_simp
    have k3:W.cell? ⟨w.heap.size,3,none⟩=some (sL pa B.pairs.length pc):=by subst hW;go_simp
    have HBW:Hid (bX w.heap.size w W):=lH (by subst hW;exact HB0 _);have HsW:=lH (Hs.out.below HBW.out (nR _));rw[<-hW];clear hW HB0
    go_loopw [3] (fun i wr=> ∃k:Nat,k<=B.towns.length/\i= iN qi (k:Int)/\(∀j (x:ByteArray),j<k->B.towns[j]? =some x->decide (100<x.size)=false)/\wr=W) (fun i _=>B.towns.length-(intOf i).toNat)
    case atStart=>exact⟨0,Nat.zero_le _,rfl,fun j x hj=>by omega,rfl⟩
    case round=>
     obtain⟨k,hk,rfl,hno,rfl⟩:=hrel;have Hno:=lH hno;clear hno;by_cases hlt:k<B.towns.length
     ·have hx:B.towns[k]? =some B.towns[k]:=lG hlt;obtain⟨b,o,rfl,g0⟩:=HsW.out.towns k _ hx;have hz:=HsW.out.sz _ (List.mem_of_getElem? hx);unfold maxLen at hz;generalize B.towns[k]=t at *;have Hx:=lH hx;clear hx;by_cases h100:100<t.size
      ·have HF:Hid (dP B=true):=lH (by simp only[dP,EK (p:=fun t:ByteArray=>decide (100<t.size)) Hx.out (decide_eq_true h100)];simp);have i100:(100 :Int)<(t.size:Int):=by omega
       go_wp2;go_ret;exact⟨by rw[HF.out]<;>rfl,HBW.out⟩
      ·have i100: ¬(100 :Int)<(t.size:Int):=by omega
       have HNx:Hid (∀j (x:ByteArray),j<k+1->B.towns[j]? =some x->decide (100<x.size)=false):=lH fun j x hj hx=>by
        by_cases e:j=k
        ·subst e;rw[Hx.out] at hx;cases hx;exact decide_eq_false h100
        ·exact Hno.out j x (by omega) hx
       go_wp2;exact⟨⟨k+1,by omega,rfl,HNx.out,trivial⟩,by simp[intOf];omega⟩
     ·have A1:Hid ((B.towns.any fun t=>decide (100<t.size))=false):=lH (any_none fun j x hj hx=>Hno.out j x (by omega) hx);clear Hno
      go_wp2_with fail
      go_loopw [4] (fun i w2=> ∃k:Nat,k<=B.links.length/\i= iN qi (k:Int)/\(∀j (x:Lnk),j<k->B.links[j]? =some x->decide (20<x.steps.length)=false)/\w2=wr) (fun i _=>B.links.length-(intOf i).toNat)
      case atStart=>exact⟨0,Nat.zero_le _,rfl,fun j x hj=>by omega,rfl⟩
      case round=>
       obtain⟨k',hk',rfl,hno,rfl⟩:=hrel;have Hno:=lH hno;clear hno;by_cases hlt2:k'<B.links.length
       ·have hx:B.links[k']? =some B.links[k']:=lG hlt2;obtain⟨b,o,sa,sc,e1,g0,g1,g2,_,hz⟩:=HsW.out.links k' _ hx;simp only at e1;subst e1;unfold maxLen at hz;have Hx:=lH hx;clear hx;generalize hst:B.links[k'].steps.length=sn at *;by_cases h20:20<sn
        ·have HF:Hid (dP B=true):=lH (by simp only[dP,EK (p:=fun L:Lnk=>decide (20<L.steps.length)) Hx.out (decide_eq_true (by omega))];simp);have i20:(20 :Int)<(sn:Int):=by omega
         clear hst;go_wp2;go_ret;exact⟨by rw[HF.out]<;>rfl,HBW.out⟩
        ·have i20: ¬(20 :Int)<(sn:Int):=by omega
         have HNx:Hid (∀j (x:Lnk),j<k'+1->B.links[j]? =some x->decide (20<x.steps.length)=false):=lH fun j x hj hx=>by
          by_cases e:j=k'
          ·subst e;rw[Hx.out] at hx;cases hx;exact decide_eq_false (by omega)
          ·exact Hno.out j x (by omega) hx
         clear hst;go_wp2;exact⟨⟨k'+1,by omega,rfl,HNx.out,trivial⟩,by simp[intOf];omega⟩
       ·have A2:Hid ((B.links.any fun L=>decide (20<L.steps.length))=false):=lH (any_none fun j x hj hx=>Hno.out j x (by omega) hx);clear Hno
        go_wp2_with fail
        go_loopw [5] (fun i w2=> ∃k:Nat,k<=B.pairs.length/\i= iN qi (k:Int)/\(∀j (x:Pr),j<k->B.pairs[j]? =some x->decide (20<x.calls.length)=false)/\w2=wr) (fun i _=>B.pairs.length-(intOf i).toNat)
        case atStart=>exact⟨0,Nat.zero_le _,rfl,fun j x hj=>by omega,rfl⟩
        case round=>
         obtain⟨m2,hm2,rfl,hno,rfl⟩:=hrel;have Hno:=lH hno;clear hno;by_cases hlt3:m2<B.pairs.length
         ·have hx:B.pairs[m2]? =some B.pairs[m2]:=lG hlt3;obtain⟨b,o,sa,sc,e1,g0,g1,g2,_,hz⟩:=HsW.out.pairs m2 _ hx;simp only at e1;subst e1;unfold maxLen at hz;have Hx:=lH hx;clear hx;generalize hst:B.pairs[m2].calls.length=sn at *;by_cases h20:20<sn
          ·have HF:Hid (dP B=true):=lH (by simp only[dP,EK (p:=fun L:Pr=>decide (20<L.calls.length)) Hx.out (decide_eq_true (by omega))];simp);have i20:(20 :Int)<(sn:Int):=by omega
           clear hst;go_wp2;go_ret;exact⟨by rw[HF.out]<;>rfl,HBW.out⟩
          ·have i20: ¬(20 :Int)<(sn:Int):=by omega
           have HNx:Hid (∀j (x:Pr),j<m2+1->B.pairs[j]? =some x->decide (20<x.calls.length)=false):=lH fun j x hj hx=>by
            by_cases e:j=m2
            ·subst e;rw[Hx.out] at hx;cases hx;exact decide_eq_false (by omega)
            ·exact Hno.out j x (by omega) hx
           clear hst;go_wp2;exact⟨⟨m2+1,by omega,rfl,HNx.out,trivial⟩,by simp[intOf];omega⟩
         ·have A3:Hid ((B.pairs.any fun L=>decide (20<L.calls.length))=false):=lH (any_none fun j x hj hx=>Hno.out j x (by omega) hx);have HF:Hid (dP B=false):=lH (by
           obtain⟨z1,z2,z3⟩:=HN.out;unfold dP;rw[A1.out,A2.out,A3.out,decide_eq_false z1,decide_eq_false z2,decide_eq_false z3];rfl)
          go_wp2;go_ret;exact⟨by rw[HF.out]<;>rfl,HBW.out⟩
end Go.Proofs.YtfiiffnbggnkfaaDoor
namespace Go.Proofs.YtfiiffnbggnkfaaDoor
open Go.RowKit Go.Rent Go.Tp Go.Conc Go.Deep Go.ChangeShapes Go.WideShapes
def SlH (w:wD) (sa:Option aD) (xs:List Int):Prop:= ∀(i:Nat) (x:Int),xs[i]? =some x-> ∃b o,sa=some ⟨b,o,none⟩/\w.cell? ⟨b,o+i,none⟩=some (.int .u16 x)
theorem SlH.below {n:Nat} {w w':wD} {sa:Option aD} {xs:List Int} (h:SlH w sa xs) (hb:bX n w w') (hn:w.heap.size<=n):SlH w' sa xs:=fun i x hx=>by
 obtain⟨b,o,e,h0⟩:=h i x hx;exact⟨b,o,e,aoF hb h0 hn⟩
theorem SlH.tp {w:wD} {τ:Nat->Question->Nat} {d:Nat} {sa:Option aD} {xs:List Int} (h:SlH w sa xs):SlH (w.tp τ d noJ) sa xs:=fun i x hx=>by obtain⟨b,o,e,h0⟩:=h i x hx;exact⟨b,o,e,by rw[bV];exact h0⟩
def oO (B:Bk):Bool:= !dP B&&decide (B.alarm=0)
end Go.Proofs.YtfiiffnbggnkfaaDoor
