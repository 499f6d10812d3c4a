/- A part of the proof of a law; no conditions of its own. -/
import Derived.Test.YtfiiffnbggnkfaaDoorAv02
import GoSem.Step
import Derived.StepT
import Derived.Laws.Sem
import Derived.Conc.Beside
open Go renaming Addr→aD, Program→pQ, Question→qS, Value→vL, World→wD
open Go.IntKind renaming i64→qi
open Go.Value renaming int→iN, slice→sL
open Go.Obj renaming cells→cL
set_option maxRecDepth 100000
open Nat renaming le_refl→nR
open Go.Lib renaming hid→lH
open Go.RowKit.Below renaming refl→bR
open Array renaming getElem?_eq_some_iff→aS
open Option.some renaming injEq→oI
open Nat renaming lt_of_lt_of_le→nL
set_option maxHeartbeats 4000000
namespace Go.Proofs.YtfiiffnbggnkfaaDoor
open Go.RowKit Go.Rent
abbrev Ci:vL:= .agg #[iN qi 0,sL none 0 0,sL none 0 0,sL none 0 0]
def fF (B:Bk) (there:Bool):Int:=if B.alarm=0 then (if there then 0 else 6) else B.alarm
def bU (V:BkV) (B:Bk) (a:Int):vL:= .tuple #[if a=0 then V.val B else Ci,iN qi a]
theorem jE {V:BkV} {B:Bk}:bU V B 0= .tuple #[V.val B,iN qi 0]:=rfl
theorem lC {V:BkV} {B:Bk} {a:Int} (h:a≠0):bU V B a= .tuple #[Ci,iN qi a]:=by unfold bU;rw[if_neg h]
theorem GK (w:wD) (o:Obj):(w.alloc o).heap[w.heap.size]? =some o:=by
 show (w.heap.push o)[w.heap.size]? =some o
 simp
theorem Pq {w:wD} {o x:Obj} {b:Nat} (h:w.heap[b]? =some x):(w.alloc o).heap[b]? =some x:=by
 rw[Below.heap_alloc w o b (aS.1 h).1];exact h
theorem GN (w:wD) (o o':Obj):((w.alloc o).alloc o').heap[w.heap.size]? =some o/\((w.alloc o).alloc o').heap[w.heap.size+1]? =some o':=
 ⟨Pq (GK w o),by have:=GK (w.alloc o) o';rwa [World.size_alloc] at this⟩
structure dW (w:wD) (n:Nat) (a b c d:vL):Prop where
 z:n<w.heap.size
 c0:w.cell? ⟨n,0,none⟩=some a
 c1:w.cell? ⟨n,1,none⟩=some b
 c2:w.cell? ⟨n,2,none⟩=some c
 c3:w.cell? ⟨n,3,none⟩=some d
 f0:w.frozen? ⟨n,0,none⟩=false
 f1:w.frozen? ⟨n,1,none⟩=false
 f2:w.frozen? ⟨n,2,none⟩=false
 f3:w.frozen? ⟨n,3,none⟩=false
theorem row4 {w:wD} {n:Nat} {a b c d:vL} {t:TypeId} (h:w.heap[n]? =some (cL #[a,b,c,d] t (0,0))):dW w n a b c d:=by
 have hc: ∀i v,#[a,b,c,d][i]? =some v->w.cell? ⟨n,i,none⟩=some v:=fun i v hv=>by simp[World.cell?,h,hv]
 have hf: ∀i,w.frozen? ⟨n,i,none⟩=false:=fun i=>by simp[World.frozen?,h]
 exact⟨(aS.1 h).1,hc 0 _ (by rfl),hc 1 _ (by rfl),hc 2 _ (by rfl),hc 3 _ (by rfl),hf 0,hf 1,hf 2,hf 3⟩
theorem dW.below {w w':wD} {n m:Nat} {a b c d:vL} (r:dW w n a b c d) (hb:Below m w w') (hm:n<m):dW w' n a b c d:=by
 obtain⟨z,c0,c1,c2,c3,f0,f1,f2,f3⟩:=r;have hc:=fun o=>(ak hb).1 n o hm;have hf:=fun o=>(ak hb).2 n o hm;exact⟨nL z hb.size,by rw[hc];exact c0,by rw[hc];exact c1,by rw[hc];exact c2,by rw[hc];exact c3,by rw[hf];exact f0,by rw[hf];exact f1,by rw[hf];exact f2,by rw[hf];exact f3⟩
theorem c78 (V:BkV) (B:Bk) (there:Bool) (w:wD) (hs:aB w V B) (hv:iG w):Calls Tryd.prog 34 #[V.val B,.bool there] w fun e w'=>e= .returned (bU V B (fF B there))/\Below w.heap.size w w':=by
 obtain⟨ta,la,pa,tc,lc,pc⟩:=V;have hb0:Below w.heap.size w ((w.alloc (cL #[iN qi B.hours,sL ta B.towns.length tc,sL la B.links.length lc,sL pa B.pairs.length pc] 26)).alloc (cL #[iN qi 0,sL none 0 0,sL none 0 0,sL none 0 0] 81)):=((bR _ _).alloc (nR _) _).alloc (by simp) _;have HC:=lH (c19 _ B _ (hs.below hb0 (nR _)) (hv.below hb0 (nR _)));have HT:=lH (GN w (cL #[iN qi B.hours,sL ta B.towns.length tc,sL la B.links.length lc,sL pa B.pairs.length pc] 26) (cL #[iN qi 0,sL none 0 0,sL none 0 0,sL none 0 0] 81));have HB0:=lH hb0;clear hs hv hb0;by_cases ha:B.alarm=0
 ·cases there with
  |true=>
   have HR:=lH (show fF B true=0 by unfold fF;rw[if_pos ha];rfl);go_enter Tryd.func34,Tryd.ntmps34
   go_wp2_with fail
   refine HC.out.mono ?_;rintro e w1 ⟨rfl,hb1⟩;obtain⟨z0,c0,c1,c2,c3,f0,f1,f2,f3⟩:=(row4 HT.out.1).below hb1 (by simp;omega);obtain⟨y0,d0,d1,d2,d3,g0,g1,g2,g3⟩:=(row4 HT.out.2).below hb1 (by simp);have Hbw:=lH (HB0.out.trans (hb1.mono (by simp;omega)));clear hb1;go_wp2;refine bodyPost_ret (v:=bU ⟨ta,la,pa,tc,lc,pc⟩ B 0) (by simp[results,Tryd.results34,go_sem,bU,d0,d1,d2,d3]) rfl ⟨by rw[HR.out], ?_⟩;exact Hbw.out.trans (((((bR _ _).setCell (by simp) _).setCell (by simp) _).setCell (by simp) _).setCell (by simp) _)
  |false=>
   have HR:=lH (show fF B false=6 by unfold fF;rw[if_pos ha];rfl);go_enter Tryd.func34,Tryd.ntmps34
   go_wp2_with fail
   refine HC.out.mono ?_;rintro e w1 ⟨rfl,hb1⟩;obtain⟨z0,c0,c1,c2,c3,f0,f1,f2,f3⟩:=(row4 HT.out.1).below hb1 (by simp;omega);obtain⟨y0,d0,d1,d2,d3,g0,g1,g2,g3⟩:=(row4 HT.out.2).below hb1 (by simp);have Hbw:=lH (HB0.out.trans (hb1.mono (by simp;omega)));clear hb1;go_wp2;refine bodyPost_ret (v:=bU ⟨ta,la,pa,tc,lc,pc⟩ B 6) (by simp[results,Tryd.results34,go_sem,bU,d0,d1,d2,d3]) rfl ⟨by rw[HR.out], ?_⟩;exact Hbw.out.trans (((((bR _ _).setCell (by simp) _).setCell (by simp) _).setCell (by simp) _).setCell (by simp) _)
 ·have HR:=lH (show fF B there=B.alarm by unfold fF;rw[if_neg ha]);go_enter Tryd.func34,Tryd.ntmps34
  go_wp2_with fail
  refine HC.out.mono ?_;rintro e w1 ⟨rfl,hb1⟩;obtain⟨z0,c0,c1,c2,c3,f0,f1,f2,f3⟩:=(row4 HT.out.1).below hb1 (by simp;omega);obtain⟨y0,d0,d1,d2,d3,g0,g1,g2,g3⟩:=(row4 HT.out.2).below hb1 (by simp);have Hbw:=lH (HB0.out.trans (hb1.mono (by simp;omega)));clear hb1;go_wp2;refine bodyPost_ret (v:=bU ⟨ta,la,pa,tc,lc,pc⟩ B B.alarm) (by simp[results,Tryd.results34,go_sem,bU,ha,d0,d1,d2,d3]) rfl ⟨by rw[HR.out], ?_⟩;exact Hbw.out.trans (((((bR _ _).setCell (by simp) _).setCell (by simp) _).setCell (by simp) _).setCell (by simp) _)
def dN (l:List Int):Bool:=l.any fun n=> !btw n 0 20
theorem GR (l:List Int) (sa:Option aD) (n cap:Nat) (w:wD) (hn:n=l.length) (hs:SlI w sa l) (hl:l.length<=1000000):
  Calls Tryd.prog 52 #[sL sa n cap,.func (.func 66) #[] #[]] w fun e w'=>e= .returned (.bool (dN l))/\Below w.heap.size w w':=
 c67 66 (fun x=> !btw x 0 20) sa l n cap w hn hs hl (cf Tryd.func66 (by rfl) (by rfl)) (fun x w1 _=>c92 x w1)
def aH (B:Bk) (xs:List Int) (there:Bool):Int:=if B.alarm=0 then (if xs.length=B.links.length then (if dN xs then 1 else if there then 0 else 6) else 2) else B.alarm
theorem c55 (V:BkV) (B:Bk) (xs:List Int) (xa:Option aD) (xc:Nat) (there:Bool) (w:wD) (hs:aB w V B) (hv:iG w) (hx:SlI w xa xs) (hxl:xs.length<=1000000):
  Calls Tryd.prog 37 #[V.val B,sL xa xs.length xc,.bool there] w fun e w'=>e= .returned (bU V B (aH B xs there))/\Below w.heap.size w w':=by
 obtain⟨ta,la,pa,tc,lc,pc⟩:=V;have hb0:Below w.heap.size w ((w.alloc (cL #[iN qi B.hours,sL ta B.towns.length tc,sL la B.links.length lc,sL pa B.pairs.length pc] 26)).alloc (cL #[iN qi 0,sL none 0 0,sL none 0 0,sL none 0 0] 81)):=((bR _ _).alloc (nR _) _).alloc (by simp) _;have HC:=lH (c19 _ B _ (hs.below hb0 (nR _)) (hv.below hb0 (nR _)));have HT:=lH (GN w (cL #[iN qi B.hours,sL ta B.towns.length tc,sL la B.links.length lc,sL pa B.pairs.length pc] 26) (cL #[iN qi 0,sL none 0 0,sL none 0 0,sL none 0 0] 81));have HB0:=lH hb0;have HS:=lH hs;have HV:=lH hv;have HX:=lH hx;clear hs hv hb0 hx;by_cases ha:B.alarm=0
 ·by_cases hlen:xs.length=B.links.length
  ·cases hbad:dN xs with
   |true=>
    have HR:=lH (show aH B xs there=1 by unfold aH;rw[if_pos ha,if_pos hlen,if_pos hbad]);have hne1:((xs.length:Int) != (B.links.length:Int))=false:=by simp[hlen]
    have hne2:(xs.length != B.links.length)=false:=by simp[hlen]
    have Hlen:=lH hlen;clear hlen;go_enter Tryd.func37,Tryd.ntmps37
    go_wp2_with fail
    refine HC.out.mono ?_;rintro e w1 ⟨rfl,hb1⟩;have R0:=(row4 HT.out.1).below hb1 (by simp;omega);have R1:=(row4 HT.out.2).below hb1 (by simp);have Hbw:=lH (HB0.out.trans (hb1.mono (by simp;omega)));have HR0:=lH R0;have HR1:=lH R1;obtain⟨z0,c0,c1,c2,c3,f0,f1,f2,f3⟩:=R0;obtain⟨y0,d0,d1,d2,d3,g0,g1,g2,g3⟩:=R1;clear hb1
    go_wp2_with fail
    refine(GR xs xa _ xc _ rfl (HX.out.below Hbw.out (nR _)) hxl).mono ?_;rintro e w2 ⟨rfl,hb2⟩;have Hbw2:=lH (Hbw.out.trans (hb2.mono Hbw.out.size));have S0:=HR0.out.below hb2 z0;have S1:=HR1.out.below hb2 y0;have HS0:=lH S0;have HS1:=lH S1;obtain⟨z0',c0',c1',c2',c3',f0',f1',f2',f3'⟩:=S0;obtain⟨y0',d0',d1',d2',d3',g0',g1',g2',g3'⟩:=S1;clear hb2;go_wp2;refine bodyPost_ret (v:=bU ⟨ta,la,pa,tc,lc,pc⟩ B 1) (by simp[results,Tryd.results37,go_sem,bU,d0',d1',d2',d3']) rfl ⟨by rw[HR.out], ?_⟩;exact Hbw2.out.trans (((((bR _ _).setCell (by simp) _).setCell (by simp) _).setCell (by simp) _).setCell (by simp) _)
   |false=>
    have HR:=lH (show aH B xs there=fF B there by unfold aH fF;rw[if_pos ha,if_pos hlen,if_neg (by rw[hbad];decide),if_pos ha]);have hne1:((xs.length:Int) != (B.links.length:Int))=false:=by simp[hlen]
    have hne2:(xs.length != B.links.length)=false:=by simp[hlen]
    have Hlen:=lH hlen;clear hlen;go_enter Tryd.func37,Tryd.ntmps37
    go_wp2_with fail
    refine HC.out.mono ?_;rintro e w1 ⟨rfl,hb1⟩;have R0:=(row4 HT.out.1).below hb1 (by simp;omega);have R1:=(row4 HT.out.2).below hb1 (by simp);have Hbw:=lH (HB0.out.trans (hb1.mono (by simp;omega)));have HR0:=lH R0;have HR1:=lH R1;obtain⟨z0,c0,c1,c2,c3,f0,f1,f2,f3⟩:=R0;obtain⟨y0,d0,d1,d2,d3,g0,g1,g2,g3⟩:=R1;clear hb1
    go_wp2_with fail
    refine(GR xs xa _ xc _ rfl (HX.out.below Hbw.out (nR _)) hxl).mono ?_;rintro e w2 ⟨rfl,hb2⟩;have Hbw2:=lH (Hbw.out.trans (hb2.mono Hbw.out.size));have S0:=HR0.out.below hb2 z0;have S1:=HR1.out.below hb2 y0;have HS0:=lH S0;have HS1:=lH S1;obtain⟨z0',c0',c1',c2',c3',f0',f1',f2',f3'⟩:=S0;obtain⟨y0',d0',d1',d2',d3',g0',g1',g2',g3'⟩:=S1;clear hb2
    go_wp2_with fail
    refine(c78 ⟨ta,la,pa,tc,lc,pc⟩ B there _ (HS.out.below Hbw2.out (nR _)) (HV.out.below Hbw2.out (nR _))).mono ?_;rintro e w3 ⟨rfl,hb3⟩;have Hbw3:=lH (Hbw2.out.trans (hb3.mono Hbw2.out.size));have Q1:=HS1.out.below hb3 y0';obtain⟨y0'',d0'',d1'',d2'',d3'',g0'',g1'',g2'',g3''⟩:=Q1;clear hb3
    cases there with
    |true=>
     have hop:fF B true=0:=by unfold fF;rw[if_pos ha];rfl
     have hrs:bU ⟨ta,la,pa,tc,lc,pc⟩ B 0= .tuple #[.agg #[iN qi B.hours,sL ta B.towns.length tc,sL la B.links.length lc,sL pa B.pairs.length pc],iN qi 0]:=rfl;rw[hop,hrs];have HR2:=lH (HR.out.trans hop);clear hop hrs;go_wp2;refine bodyPost_ret (v:=bU ⟨ta,la,pa,tc,lc,pc⟩ B 0) (by simp[results,Tryd.results37,go_sem,bU,d0'',d1'',d2'',d3'']) rfl ⟨by rw[HR2.out], ?_⟩;exact Hbw3.out.trans (((((bR _ _).setCell (by simp) _).setCell (by simp) _).setCell (by simp) _).setCell (by simp) _)
    |false=>
     have hop:fF B false=6:=by unfold fF;rw[if_pos ha];rfl
     have hrs:bU ⟨ta,la,pa,tc,lc,pc⟩ B 6= .tuple #[Ci,iN qi 6]:=rfl;rw[hop,hrs];have HR2:=lH (HR.out.trans hop);clear hop hrs;go_wp2;refine bodyPost_ret (v:=bU ⟨ta,la,pa,tc,lc,pc⟩ B 6) (by simp[results,Tryd.results37,go_sem,bU,d0'',d1'',d2'',d3'']) rfl ⟨by rw[HR2.out], ?_⟩;exact Hbw3.out.trans (((((bR _ _).setCell (by simp) _).setCell (by simp) _).setCell (by simp) _).setCell (by simp) _)
  ·have HR:=lH (show aH B xs there=2 by unfold aH;rw[if_pos ha,if_neg hlen]);have hne1:((xs.length:Int) != (B.links.length:Int))=true:=by simp;omega
   have hne2:(xs.length != B.links.length)=true:=by simpa using hlen
   go_enter Tryd.func37,Tryd.ntmps37
   go_wp2_with fail
   refine HC.out.mono ?_;rintro e w1 ⟨rfl,hb1⟩;have R0:=(row4 HT.out.1).below hb1 (by simp;omega);have R1:=(row4 HT.out.2).below hb1 (by simp);have Hbw:=lH (HB0.out.trans (hb1.mono (by simp;omega)));have HR0:=lH R0;have HR1:=lH R1;obtain⟨z0,c0,c1,c2,c3,f0,f1,f2,f3⟩:=R0;obtain⟨y0,d0,d1,d2,d3,g0,g1,g2,g3⟩:=R1;clear hb1;go_wp2;refine bodyPost_ret (v:=bU ⟨ta,la,pa,tc,lc,pc⟩ B 2) (by simp[results,Tryd.results37,go_sem,bU,d0,d1,d2,d3]) rfl ⟨by rw[HR.out], ?_⟩;exact Hbw.out.trans (((((bR _ _).setCell (by simp) _).setCell (by simp) _).setCell (by simp) _).setCell (by simp) _)
 ·have HR:=lH (show aH B xs there=B.alarm by unfold aH;rw[if_neg ha]);go_enter Tryd.func37,Tryd.ntmps37
  go_wp2_with fail
  refine HC.out.mono ?_;rintro e w1 ⟨rfl,hb1⟩;have R0:=(row4 HT.out.1).below hb1 (by simp;omega);have R1:=(row4 HT.out.2).below hb1 (by simp);have Hbw:=lH (HB0.out.trans (hb1.mono (by simp;omega)));have HR0:=lH R0;have HR1:=lH R1;obtain⟨z0,c0,c1,c2,c3,f0,f1,f2,f3⟩:=R0;obtain⟨y0,d0,d1,d2,d3,g0,g1,g2,g3⟩:=R1;clear hb1;go_wp2;refine bodyPost_ret (v:=bU ⟨ta,la,pa,tc,lc,pc⟩ B B.alarm) (by simp[results,Tryd.results37,go_sem,bU,ha,d0,d1,d2,d3]) rfl ⟨by rw[HR.out], ?_⟩;exact Hbw.out.trans (((((bR _ _).setCell (by simp) _).setCell (by simp) _).setCell (by simp) _).setCell (by simp) _)
theorem GU {nt:Int}: ∀(l:List Lnk) (i:Nat) (S:List (Int×Int)),fO nt i S l=0-> ∀(j:Nat) (x:Lnk),l[j]? =some x->
  btw x.one 0 (nt-1)=true/\btw x.two 0 (nt-1)=true/\ ¬dD nt (i+j) x.one x.two/\bJ x.steps=0
 | [],_,_,_,j,x,hj=>by simp at hj
 |y::l,i,S,h,j,x,hj=>by
  unfold fO at h;by_cases h1:btw y.one 0 (nt-1)=false\/btw y.two 0 (nt-1)=false
  ·rw[if_pos h1] at h;cases h
  ·rw[if_neg h1] at h;by_cases h2:dD nt i y.one y.two
   ·rw[if_pos h2] at h;cases h
   ·rw[if_neg h2] at h;by_cases h3:bZ S y.one y.two=true
    ·rw[if_pos h3] at h;cases h
    ·rw[if_neg h3] at h;by_cases h4:bJ y.steps=0
     ·rw[if_pos h4] at h
      cases j with
      |zero=>
       simp only[List.getElem?_cons_zero,oI] at hj;subst hj;simp only[not_or,Bool.not_eq_false] at h1;exact⟨h1.1,h1.2,h2,h4⟩
      |succ j=>
       have:=GU l (i+1) _ h j x (by simpa using hj);rw[show i+1+j=i+(j+1) by omega] at this;exact this
     ·rw[if_neg h4] at h;exact absurd h h4
theorem GV {nt hours:Int}: ∀(l:List Pr) (S:List (Int×Int)),fP nt hours S l=0-> ∀(j:Nat) (x:Pr),l[j]? =some x->
  btw x.one 0 (nt-1)=true/\btw x.two 0 (nt-1)=true/\x.one<x.two/\(x.calls.length:Int)=hours/\jc x.calls=false
 | [],_,_,j,x,hj=>by simp at hj
 |y::l,S,h,j,x,hj=>by
  unfold fP at h;by_cases h1:btw y.one 0 (nt-1)=false\/btw y.two 0 (nt-1)=false
  ·rw[if_pos h1] at h;cases h
  ·rw[if_neg h1] at h;by_cases h2:y.two<=y.one
   ·rw[if_pos h2] at h;cases h
   ·rw[if_neg h2] at h;by_cases h3:bZ S y.one y.two=true
    ·rw[if_pos h3] at h;cases h
    ·rw[if_neg h3] at h;by_cases h4:(y.calls.length:Int)=hours
     ·rw[if_pos h4] at h;by_cases h5:jc y.calls=true
      ·rw[if_pos h5] at h;cases h
      ·rw[if_neg h5] at h
       cases j with
       |zero=>
        simp only[List.getElem?_cons_zero,oI] at hj;subst hj;simp only[not_or,Bool.not_eq_false] at h1;exact⟨h1.1,h1.2,by omega,h4,by simpa using h5⟩
       |succ j=>exact GV l _ h j x (by simpa using hj)
     ·rw[if_neg h4] at h;cases h
theorem GX {B:Bk} (h:B.alarm=0):iZ B.hours=0/\fM B.towns=0/\dA B.towns.length B.links=0/\dR B.towns.length B.hours B.pairs=0:=by
 unfold Bk.alarm at h;simp only[kH,alK] at h;by_cases h0:iZ B.hours=0
 ·rw[if_pos h0] at h;by_cases h1:fM B.towns=0
  ·rw[if_pos h1] at h;by_cases h2:dA B.towns.length B.links=0
   ·rw[if_pos h2] at h;by_cases h3:dR B.towns.length B.hours B.pairs=0
    ·exact⟨h0,h1,h2,h3⟩
    ·rw[if_neg h3] at h;exact absurd h h3
   ·rw[if_neg h2] at h;exact absurd h h2
  ·rw[if_neg h1] at h;exact absurd h h1
 ·rw[if_neg h0] at h;exact absurd h h0
theorem GY {l:List (Int×Int)} (h:jc l=false) {i:Nat} {x:Int×Int} (hi:l[i]? =some x):0<=x.1/\x.1<=x.2/\x.2<=5:=by
 unfold jc at h;rw[List.any_eq_false] at h;have:=h x (List.mem_of_getElem? hi);simpa[dw] using this
structure Good (B:Bk):Prop where
 fine:B.Fine
 hours:btw B.hours 1 3=true
 towns:btw B.towns.length 2 4=true
 links: ∀(j:Nat) (x:Lnk),B.links[j]? =some x->btw x.one 0 (B.towns.length-1)=true/\btw x.two 0 (B.towns.length-1)=true/\ ¬dD B.towns.length j x.one x.two/\bJ x.steps=0
 pairs: ∀(j:Nat) (x:Pr),B.pairs[j]? =some x->btw x.one 0 (B.towns.length-1)=true/\btw x.two 0 (B.towns.length-1)=true/\x.one<x.two/\(x.calls.length:Int)=B.hours/\jc x.calls=false
 steps: ∀(i:Nat) (L:Lnk),B.links[i]? =some L->1<=L.steps.length
theorem gY {B:Bk} (h:B.alarm=0):Good B:=by
 obtain⟨h0,h1,h2,h3⟩:=GX h;have k0:btw B.hours 1 3=true:=by
  unfold iZ at h0
  cases e:btw B.hours 1 3 with
  |true=>rfl
  |false=>rw[e] at h0;cases h0
 have k1:btw B.towns.length 2 4=true:=by
  unfold fM at h1
  cases e:btw (B.towns.length:Int) 2 4 with
  |true=>rfl
  |false=>rw[e] at h1;cases h1
 have k2:btw B.links.length ((B.towns.length:Int)-1) 6=true/\fO B.towns.length 0 [] B.links=0:=by
  unfold dA at h2
  cases e:btw (B.links.length:Int) ((B.towns.length:Int)-1) 6 with
  |true=>rw[e] at h2;exact⟨rfl,h2⟩
  |false=>rw[e] at h2;cases h2
 have k3: ¬6<B.pairs.length/\fP B.towns.length B.hours [] B.pairs=0:=by
  unfold dR at h3;by_cases e:6<B.pairs.length
  ·rw[if_pos e] at h3;cases h3
  ·rw[if_neg e] at h3;exact⟨e,h3⟩
 have j0:=fK k0;have j1:=fK k1;have j2:=fK k2.1;have L:=GU B.links 0 [] k2.2;have Q:=GV B.pairs [] k3.2;have ends: ∀i,i<B.pairs.length->0<=B.pone i/\B.pone i<B.ptwo i/\B.ptwo i<B.towns.length:=fun i hi=>by
  have hx:B.pairs[i]? =some B.pairs[i]:=List.getElem?_eq_getElem hi;obtain⟨q1,q2,q3,_⟩:=Q i _ hx;have q1:=fK q1;have q2:=fK q2;unfold Bk.pone Bk.ptwo;rw[hx];simp only[Option.map_some,Option.getD_some];omega
 refine⟨⟨j0,by omega,⟨by unfold Bk.spokes;omega,by omega⟩,by omega,ends,fun i p hp=> ?_⟩,k0,k1,fun j x hx=> ?_,fun j x hx=>Q j x hx,fun i l hl=> ?_⟩
 ·obtain⟨_,_,_,q4,q5⟩:=Q i p hp;exact⟨q4,fun k x hx=>GY q5 hx⟩
 ·have:=L j x hx;rwa [Nat.zero_add] at this
 ·obtain⟨_,_,_,q4⟩:=L i l hl;unfold bJ at q4
  cases e:btw (l.steps.length:Int) 1 3 with
  |true=>have:=fK e;omega
  |false=>rw[e] at q4;cases q4
end Go.Proofs.YtfiiffnbggnkfaaDoor
namespace Go.Tp
def fin:Obj:= .finalizers #[] none
def isFin:Obj->Bool
 | .finalizers fs none=>fs.isEmpty
 |_=>false
def _root_.Go.Obj.junk:Obj->Prop
 | .loop _ | .deferred _ | .chan .. =>True
 |_=>False
abbrev aW:=Nat->Option Obj
def aW.ok (j:aW):Prop:= ∀n o,j n=some o->o.junk
def noJ:aW:=fun _=>none
theorem lF:noJ.ok:=fun _ _ h=>by cases h
def fQ (j:aW) (n:Nat) (o:Obj):Obj:=if isFin o then (j n).getD o else o
def fill (h:Array Obj) (j:aW):Array Obj:=h.mapIdx fun n o=>fQ j n o
def _root_.Go.World.tp (w:wD) (τ:Nat->qS->Nat) (d:Nat) (j:aW):wD:={w with heap:=fill w.heap j,tape:=τ,drawn:=d}
def _root_.Go.Result.tp {α:Type} (r:Result α) (τ:Nat->qS->Nat) (d:Nat) (j:aW):Result α:=
 match r with
 | .ok a w=> .ok a (w.tp τ d j)
 | .halt h w=> .halt h (w.tp τ d j)
def _root_.Go.Result.fails {α:Type} (r:Result α):Bool:=
 match r with
 | .halt (.stuck _) _=>true
 |_=>false
def Agree (w:wD) (k:Nat) (τ:Nat->qS->Nat) (d:Nat):Prop:= ∀j,j<k->τ (d+j)=w.tape (w.drawn+j)
theorem Cj (n:Nat) (o:Obj):fQ noJ n o=o:=by unfold fQ;split<;>rfl
theorem vO (h:Array Obj):fill h noJ=h:=by
 apply Array.ext
 ·simp[fill]
 ·intro i h1 h2;simp[fill,Cj]
theorem dh (w:wD):w.tp w.tape w.drawn noJ=w:=by unfold World.tp;rw[vO]
theorem ni (h:Array Obj) (j:aW) (n:Nat):(fill h j)[n]? =(h[n]?).map (fQ j n):=by simp[fill]
theorem nZ (h:Array Obj) (j:aW):(fill h j).size=h.size:=by simp[fill]
theorem og {o:Obj} (h:isFin o=false) (j:aW) (n:Nat):fQ j n o=o:=by simp[fQ,h]
theorem GZ {o:Obj} (h:isFin o=true):o=fin:=by
 unfold isFin at h
 split at h
 ·rename_i fs;simp only[Array.isEmpty_iff] at h;subst h;rfl
 ·cases h
theorem oh {j:aW} (hj:j.ok) (n:Nat) (o:Obj):fQ j n o=o\/(o=fin/\(fQ j n o).junk):=by
 unfold fQ
 split
 ·rename_i h
  cases e:j n with
  |none=>exact .inl rfl
  |some x=>exact .inr ⟨GZ h,hj n x e⟩
 ·exact .inl rfl
@[simp] theorem Cm (w:wD) (τ:Nat->qS->Nat) (d:Nat) (j:aW):(w.tp τ d j).tape=τ:=rfl
@[simp] theorem CB (w:wD) (τ:Nat->qS->Nat) (d:Nat) (j:aW):(w.tp τ d j).drawn=d:=rfl
@[simp] theorem CG (w:wD) (τ:Nat->qS->Nat) (d:Nat) (j:aW):(w.tp τ d j).os=w.os:=rfl
@[simp] theorem CJ (w:wD) (τ:Nat->qS->Nat) (d:Nat) (j:aW):(w.tp τ d j).output=w.output:=rfl
theorem dX (w:wD) (τ:Nat->qS->Nat) (d:Nat) (j:aW) (n:Nat):(w.tp τ d j).heap[n]? =(w.heap[n]?).map (fQ j n):=ni _ _ _
theorem gJ (w:wD) (τ:Nat->qS->Nat) (d:Nat) (j:aW):(w.tp τ d j).heap.size=w.heap.size:=nZ _ _
section
variable (w:wD) (τ:Nat->qS->Nat) (d:Nat) {j:aW} (hj:j.ok)
include hj
theorem vP {β:Type} (f:Option Obj->β) (hf: ∀o:Obj,o.junk->f (some o)=f (some fin)) (n:Nat):f ((w.tp τ d j).heap[n]?)=f (w.heap[n]?):=by
 rw[dX]
 cases e:w.heap[n]? with
 |none=>rfl
 |some o=>
  rcases oh hj n o with h |⟨h1,h2⟩
  ·simp[h]
  ·subst h1;exact hf _ h2
theorem jV (a:aD):(w.tp τ d j).cell? a=w.cell? a:=
 vP w τ d hj (fun x=>match x with |some (cL c _ _)=>if a.spot.isSome then none else c[a.off]? |_=>none) (fun o h=>by cases o<;>first |rfl |exact h.elim) a.block
theorem CO (a:aD):(w.tp τ d j).frozen? a=w.frozen? a:=
 vP w τ d hj (fun x=>match x with |some (cL _ _ (lo,hi))=>lo<=a.off&&a.off<hi |_=>false) (fun o h=>by cases o<;>first |rfl |exact h.elim) a.block
theorem Pv (r:Nat):(w.tp τ d j).shape? r=w.shape? r:=
 vP w τ d hj (fun x=>match x with |some (cL c elem _)=>some (elem,c.size) |_=>none) (fun o h=>by cases o<;>first |rfl |exact h.elim) r
theorem Ia (a:aD) (s:String):(w.tp τ d j).noCell a s=w.noCell a s:=
 vP w τ d hj (fun x=>match x with |some (.pending ..)=>Halt.unsupported (.initOrder a.block) |some (.view ..)=> .unsupported (.unsafePointer "memory read or written as another type") |_=> .stuck s) (fun o h=>by cases o<;>first |rfl |exact h.elim) a.block
theorem CP (n:Nat) (c:Array vL) (t:TypeId) (z:Nat×Nat):(w.tp τ d j).heap[n]? =some (cL c t z)↔w.heap[n]? =some (cL c t z):=by
 rw[dX]
 cases e:w.heap[n]? with
 |none=>simp
 |some o=>
  rcases oh hj n o with h |⟨h1,h2⟩
  ·simp[h]
  ·subst h1;constructor
   ·intro h;simp only[Option.map_some,oI] at h;rw[h] at h2;exact h2.elim
   ·intro h;cases h
end
theorem Ib (h:Array Obj) (j:aW) (r:Nat) {o:Obj} (ho:isFin o=false):fill (h.setIfInBounds r o) j=(fill h j).setIfInBounds r o:=by
 apply Array.ext_getElem?;intro n;rw[ni,Array.getElem?_setIfInBounds,Array.getElem?_setIfInBounds,ni,nZ]
 split
 ·split
  ·simp[og ho]
  ·rfl
 ·rfl
theorem Px (h:Array Obj) (j:aW) {o:Obj} (ho:isFin o=false):fill (h.push o) j=(fill h j).push o:=by
 apply Array.ext_getElem?;intro n;rw[ni,Array.getElem?_push,Array.getElem?_push,ni,nZ]
 split
 ·simp[og ho]
 ·rfl
theorem Ic (h:Array Obj) {j:aW} (hj:j.ok) (b:Nat) (f:Obj->Obj) (hc: ∀c t z,∃c' z',f (cL c t z)= .cells c' t z') (hf: ∀o:Obj,(∀c t z,o≠ .cells c t z)->f o=o):
  fill (h.modify b f) j=(fill h j).modify b f:=by
 apply Array.ext_getElem?;intro n;rw[ni,Array.getElem?_modify,Array.getElem?_modify,ni]
 split
 ·cases e:h[n]? with
  |none=>rfl
  |some o=>
   simp only[Option.map_some,oI];by_cases ho: ∃c t z,o= .cells c t z
   ·obtain⟨c,t,z,rfl⟩:=ho;obtain⟨c',z',e'⟩:=hc c t z;rw[e',og (by rfl),og (by rfl),e']
   ·rw[hf o (fun c t z e=>ho ⟨c,t,z,e⟩)]
    rcases oh hj n o with h1 |⟨_,h2⟩
    ·rw[h1,hf o (fun c t z e=>ho ⟨c,t,z,e⟩)]
    ·rw[hf _ (fun c t z e=>by rw[e] at h2;exact h2.elim)]
 ·rfl
theorem Ie (p:pQ) (w:wD) (τ:Nat->qS->Nat) (d:Nat) {j:aW} (hj:j.ok) (a:aD) (u:TypeId) (k:aD) (x:Bool):(w.tp τ d j).seen p a u k x=w.seen p a u k x:=by
 unfold World.seen;by_cases hc: ∃c t z,w.heap[a.block]? =some (cL c t z)
 ·obtain⟨c,t,z,e⟩:=hc;rw[e,(CP w τ d hj a.block c t z).2 e]
 ·have h1: ∀c t z,w.heap[a.block]? ≠some (cL c t z):=fun c t z e=>hc ⟨c,t,z,e⟩;have h2: ∀c t z,(w.tp τ d j).heap[a.block]? ≠some (cL c t z):=fun c t z e=>h1 c t z ((CP w τ d hj a.block c t z).1 e);generalize (w.tp τ d j).heap[a.block]? =y1 at *;generalize w.heap[a.block]? =y2 at *
  rcases y1 with _ |o1<;>rcases y2 with _ |o2<;>(try cases o1)<;>(try cases o2)<;>first |rfl |exact absurd rfl (h1 _ _ _) |exact absurd rfl (h2 _ _ _)
theorem Py (p:pQ) (w:wD) (τ:Nat->qS->Nat) (d:Nat) {j:aW} (hj:j.ok) (a:aD) (u:TypeId) (k:aD) (x:Bool):(w.tp τ d j).viewLoad p a u k x=w.viewLoad p a u k x:=by
 unfold World.viewLoad;rw[Ie p w τ d hj]
theorem Ig (p:pQ) (w:wD) (τ:Nat->qS->Nat) (d:Nat) {j:aW} (hj:j.ok) (a:aD) (x:Bool):(w.tp τ d j).farLoad p a x=w.farLoad p a x:=by
 unfold World.farLoad;rw[dX];have hn:=Ia w τ d hj a "load: no such cell"
 cases e:w.heap[a.block]? with
 |none=>simp only[Option.map_none,hn]
 |some o=>
  rcases oh hj a.block o with h |⟨h1,h2⟩
  ·simp only[Option.map_some,h,Py p w τ d hj,hn]
  ·subst h1;simp only[Option.map_some]
   cases e2:fQ j a.block fin<;>rw[e2] at h2<;>first |exact h2.elim | (simp only[hn];rfl)
theorem Pz (w:wD) (τ:Nat->qS->Nat) (d:Nat) {j:aW} (hj:j.ok) (a:aD) (v:vL):(w.tp τ d j).setCell a v=(w.setCell a v).tp τ d j:=by
 unfold World.setCell World.tp;simp only;rw[Ic _ hj _ _ (fun c t z=>⟨_,_,rfl⟩) (fun o ho=>by cases o<;>first |rfl |exact absurd rfl (ho _ _ _))]
theorem PD (w:wD) (τ:Nat->qS->Nat) (d:Nat) {j:aW} (hj:j.ok) (a:aD) (n:Nat):(w.tp τ d j).freeze a n=(w.freeze a n).tp τ d j:=by
 unfold World.freeze
 split
 ·rfl
 ·unfold World.tp;simp only;rw[Ic _ hj _ _ (fun c t z=>⟨_,_,rfl⟩) (fun o ho=>by cases o<;>first |rfl |exact absurd rfl (ho _ _ _))]
theorem PE (p:pQ) (w:wD) (τ:Nat->qS->Nat) (d:Nat) {j:aW} (hj:j.ok) (a:aD) (u:TypeId) (k:aD) (v:vL) (x:Bool):
  (w.tp τ d j).viewStore p a u k v x=match w.viewStore p a u k v x with | .ok r=> .ok (r.1.tp τ d j,r.2) | .error e=> .error e:=by
 unfold World.viewStore;rw[Ie p w τ d hj];simp only[bind,Except.bind,pure,Except.pure]
 split
 ·rfl
 ·cases h:w.seen p a u k x with
  |error e=>rfl
  |ok r=>
   obtain⟨c,e,fr,first,like,cells⟩:=r;simp only
   cases v.bytes? with
   |none=>rfl
   |some bytes=>
    simp only
    split
    ·rfl
    ·split
     ·rfl
     ·simp only[World.tp];rw[Ib _ _ _ (by rfl)]
theorem CQ (p:pQ) (w:wD) (τ:Nat->qS->Nat) (d:Nat) {j:aW} (hj:j.ok) (a:aD) (v:vL) (x:Bool):
  (w.tp τ d j).farStore p a v x=match w.farStore p a v x with | .ok r=> .ok (r.1.tp τ d j,r.2) | .error e=> .error e:=by
 unfold World.farStore;rw[dX];have hn:=Ia w τ d hj a "store: no such cell"
 cases e:w.heap[a.block]? with
 |none=>simp only[Option.map_none,hn]
 |some o=>
  rcases oh hj a.block o with h |⟨h1,h2⟩
  ·simp only[Option.map_some,h,hn]
   split
   ·rw[PE p w τ d hj]
    cases w.viewStore p _ _ a v x<;>rfl
   ·rfl
  ·subst h1;simp only[Option.map_some]
   cases e2:fQ j a.block fin<;>rw[e2] at h2<;>first |exact h2.elim | (simp only[hn];rfl)
def _root_.Go.Mark.mild:Mark->Prop
 | .noRoom | .extern _=>True
 |_=>False
def okE (N:Nat) (e:Event):Prop:=((∃m,e.loc= .mark m/\m.mild)\/ ∀m,e.loc≠ .mark m)/\e.loc.low N
theorem okE.mono {N N':Nat} {e:Event} (h:okE N e) (hN:N<=N'):okE N' e:=⟨h.1,Loc.low_mono hN h.2⟩
theorem Ih {N:Nat} {a:aD} {x y:Bool} (h:a.block<N):okE N ⟨.cell a,x,y⟩:=⟨.inr (by simp),h⟩
theorem rP {N r:Nat} {x y:Bool} (h:r<N):okE N ⟨.obj r,x,y⟩:=⟨.inr (by simp),h⟩
theorem PG {N:Nat} {x y:Bool}:okE N ⟨.output,x,y⟩:=⟨.inr (by simp),trivial⟩
theorem PI {N:Nat} {m:Mark} {x y:Bool} (h:m.mild):okE N ⟨.mark m,x,y⟩:=⟨.inl ⟨m,rfl,h⟩,trivial⟩
def _root_.Go.Result.room {α:Type} (r:Result α):Nat:=match r with
 | .ok _ w=>w.heap.size
 | .halt _ w=>w.heap.size
def okH:Halt->Prop
 | .panic _=>True
 | .stuck _=>True
 | .unsupported _=>True
 |_=>False
def iP (dfr:Bool) (o:Oper):Bool:=match o.op with
 | .call {callee:= .builtin b, .. }=>b== .append||b== .cap||b== .clear||b== .copy||b== .delete||b== .len||b== .max||b== .min||b== .recover
 | .makeChan _ (.const (iN qi 0))=>true
 | .makeChan .. =>false
 | .go {callee:= .builtin _, .. } | .defer {callee:= .builtin _, .. }=>false
 | .defer _=>dfr
 | .ready _ | .waits _=>false
 | .select _ b=>b
 |_=>true
def codeOk:Bool->Code->Bool
 |d,.region _ ops _=>ops.all (iP d)
 |d,.seq a b |d,.cond _ a b=>codeOk d a&&codeOk d b
 |_,.rangeFunc _ _ a b=>codeOk false a&&codeOk false b
 |d,.block _ c |d,.loop c |d,.scope c=>codeOk d c
 |_,.goto _=>false
 |_,_=>true
def _root_.Go.Deferred.good (d:Deferred):Prop:=match d.target with
 | .builtin .. | .coroexit _=>False
 |_=>True
def _root_.Go.Obj.started:Obj->Prop
 | .chan cap buf closed _ _ tm=>cap=0/\buf= #[]/\closed=false/\tm=false
 | .loop l=>codeOk false l.assign=true/\codeOk false l.body=true/\ ∀c,l.pending=some c->codeOk false c=true
 | .deferred (some ds)=> ∀d∈ds,d.good
 |_=>True
def Started (w:wD):Prop:= ∀(n:Nat) (o:Obj),w.heap[n]? =some o->o.started
def Calm (P:pQ) {α:Type} (A:α->Prop):Sem α->Prop
 | .pure a=>A a
 | .load _ _ k=> ∀v,Calm P A (k v)
 | .store _ _ _ k=>Calm P A k
 | .new o k=>(o.started/\isFin o=false)/\ ∀n,Calm P A (k n)
 | .shape _ k=> ∀x,Calm P A (k x)
 | .freeze _ _ k=>Calm P A k
 | .frozen _ k=> ∀b,Calm P A (k b)
 | .getObj _ k=>(∀o,o.started->Calm P A (k o))/\((∃s,k fin= .halt (.stuck s))\/ ∀o:Obj,o.junk->k o=k fin)
 | .setObj _ o k=>(o.started/\isFin o=false)/\Calm P A k
 | .choose _ k=> ∀n,Calm P A (k n)
 | .sys c k=>c= .env/\ ∀r,Calm P A (k r)
 | .program k=>Calm P A (k P)
 | .mark m k=>m.mild/\Calm P A k
 | .halt h=>okH h
theorem Calm.mono {P:pQ} {α:Type} {A B:α->Prop} (hab: ∀a,A a->B a) {s:Sem α} (h:Calm P A s):Calm P B s:=by
 induction s with
 |pure a=>exact hab _ h
 |load m a k ih=>exact fun v=>ih v (h v)
 |store m a v k ih=>exact ih h
 |new o k ih=>exact⟨h.1,fun n=>ih n (h.2 n)⟩
 |shape r k ih=>exact fun v=>ih v (h v)
 |freeze a n k ih=>exact ih h
 |frozen a k ih=>exact fun v=>ih v (h v)
 |getObj r k ih=>exact⟨fun v hv=>ih v (h.1 v hv),h.2⟩
 |setObj r o k ih=>exact⟨h.1,ih h.2⟩
 |choose q k ih=>exact fun v=>ih v (h v)
 |sys c k ih=>exact⟨h.1,fun v=>ih v (h.2 v)⟩
 |program k ih=>exact ih P h
 |mark m k ih=>exact⟨h.1,ih h.2⟩
 |halt x=>exact h
theorem Calm.bind' {P:pQ} {α β:Type} {A:α->Prop} {B:β->Prop} {s:Sem α} {f:α->Sem β} (h:Calm P A s) (hf: ∀a,A a->Calm P B (f a)):Calm P B (s.bind f):=by
 induction s with
 |pure a=>exact hf _ h
 |load m a k ih=>exact fun v=>ih v (h v)
 |store m a v k ih=>exact ih h
 |new o k ih=>exact⟨h.1,fun n=>ih n (h.2 n)⟩
 |shape r k ih=>exact fun v=>ih v (h v)
 |freeze a n k ih=>exact ih h
 |frozen a k ih=>exact fun v=>ih v (h v)
 |getObj r k ih=>exact⟨fun v hv=>ih v (h.1 v hv),h.2.imp (fun⟨s,e⟩=>⟨s,by simp only[Sem.bind,e]⟩) (fun e o ho=>by simp only[e o ho])⟩
 |setObj r o k ih=>exact⟨h.1,ih h.2⟩
 |choose q k ih=>exact fun v=>ih v (h v)
 |sys c k ih=>exact⟨h.1,fun v=>ih v (h.2 v)⟩
 |program k ih=>exact ih P h
 |mark m k ih=>exact⟨h.1,ih h.2⟩
 |halt x=>exact h
def okR {α:Type} (A:α->Prop):Result α->Prop
 | .ok a w=>A a/\Started w
 | .halt h w=>okH h/\Started w
theorem Ii (w:wD) (a:aD) (s:String):okH (w.noCell a s):=by
 unfold World.noCell;split<;>exact trivial
theorem PK {w:wD} (hs:Started w) (a:aD) (v:vL):Started (w.setCell a v):=by
 intro n o h;simp only[World.setCell,Array.getElem?_modify] at h
 split at h
 ·cases hx:w.heap[n]? with
  |none=>rw[hx] at h;cases h
  |some x=>
   rw[hx] at h;simp only[Option.map_some,oI] at h;have:=hs _ _ hx;subst h
   cases x<;>exact this
 ·exact hs _ _ h
theorem PN {w:wD} (hs:Started w) (a:aD) (n:Nat):Started (w.freeze a n):=by
 unfold World.freeze
 split
 ·exact hs
 intro m o h;simp only[Array.getElem?_modify] at h
 split at h
 ·cases hx:w.heap[m]? with
  |none=>rw[hx] at h;cases h
  |some x=>
   rw[hx] at h;simp only[Option.map_some,oI] at h;have:=hs _ _ hx;subst h
   cases x<;>exact this
 ·exact hs _ _ h
theorem PO {w:wD} (hs:Started w) {o:Obj} (ho:o.started):Started {w with heap:=w.heap.push o}:=by
 intro n x h;rw[Array.getElem?_push] at h
 split at h
 ·cases h;exact ho
 ·exact hs _ _ h
theorem Ij {w:wD} (hs:Started w) (r:Nat) {o:Obj} (ho:o.started):Started {w with heap:=w.heap.setIfInBounds r o}:=by
 intro n x h;rw[Array.getElem?_setIfInBounds] at h
 split at h
 ·split at h
  ·cases h;exact ho
  ·cases h
 ·exact hs _ _ h
theorem PS {p:pQ} {w w':wD} {a:aD} {v:vL} {x:Bool} {l:List aD} (hs:Started w) (h:w.farStore p a v x= .ok (w',l)):Started w':=by
 unfold World.farStore at h
 split at h
 ·split at h
  ·rename_i r hr
   cases h
   unfold World.viewStore at hr;simp only[bind,Except.bind,pure,Except.pure] at hr
   (repeat' split at hr)<;>first | (cases hr;exact Ij hs _ trivial) |cases hr
  ·cases h
 ·cases h
def More (N:Nat) (es es':Array Event):Prop:= ∀e∈es',e∈es\/okE N e
theorem More.refl (N:Nat) (es:Array Event):More N es es:=fun _ h=> .inl h
theorem More.push {N:Nat} {es es':Array Event} {x:Event} (hx:okE N x) (h:More N (es.push x) es'):More N es es':=fun e he=>by
 rcases h e he with h4 |h4
 ·rcases Array.mem_push.1 h4 with h5 |h5
  ·exact .inl h5
  ·exact .inr (h5▸hx)
 ·exact .inr h4
theorem More.app {N:Nat} {es es' xs:Array Event} (hx: ∀x∈xs,okE N x) (h:More N (es++xs) es'):More N es es':=fun e he=>by
 rcases h e he with h4 |h4
 ·rcases Array.mem_append.1 h4 with h5 |h5
  ·exact .inl h5
  ·exact .inr (hx e h5)
 ·exact .inr h4
theorem lt_of_some {w:wD} {n:Nat} {o:Obj} (h:w.heap[n]? =some o):n<w.heap.size:=(aS.1 h).1
theorem lt_of_cell {w:wD} {a:aD} {v:vL} (h:w.cell? a=some v):a.block<w.heap.size:=by
 unfold World.cell? at h
 split at h
 ·rename_i e;exact lt_of_some e
 ·cases h
theorem Ik {p:pQ} {w:wD} {a:aD} {u:TypeId} {k:aD} {x:Bool} {r} (h:w.seen p a u k x= .ok r):a.block<w.heap.size:=by
 unfold World.seen at h;by_cases hc: ∃o,w.heap[a.block]? =some o
 ·obtain⟨o,ho⟩:=hc;exact lt_of_some ho
 ·have hn:w.heap[a.block]? =none:=by
   cases e:w.heap[a.block]? with
   |none=>rfl
   |some o=>exact absurd ⟨o,e⟩ hc
  exfalso;rw[hn] at h;simp only[bind,Except.bind] at h
  (repeat' split at h)<;>simp_all
theorem PU {p:pQ} {w:wD} {a:aD} {x:Bool} {v:vL} {l:List aD} (h:w.farLoad p a x= .ok (v,l)): ∀b∈l,b.block<w.heap.size:=by
 unfold World.farLoad at h
 split at h
 ·split at h
  ·rename_i r hr
   cases h
   unfold World.viewLoad at hr;simp only[bind,Except.bind,pure,Except.pure] at hr
   cases hs:w.seen p _ _ a x with
   |error e=>rw[hs] at hr;cases hr
   |ok y=>
    have:=Ik hs;rw[hs] at hr;simp only at hr
    split at hr
    ·cases hr
     intro b hb;obtain⟨z,_,rfl⟩:=List.mem_map.1 hb;exact this
    ·cases hr
  ·cases h
 ·cases h
theorem Il {p:pQ} {w w':wD} {a:aD} {x:Bool} {v:vL} {l:List aD} (h:w.farStore p a v x= .ok (w',l)):(∀b∈l,b.block<w.heap.size)/\w'.heap.size=w.heap.size:=by
  unfold World.farStore at h
  split at h
  · split at h
    · rename_i r hr
      cases h
      unfold World.viewStore at hr;simp only[bind,Except.bind,pure,Except.pure] at hr
      split at hr
      · cases hr
      cases hs:w.seen p _ _ a x with
      |error e=>rw[hs] at hr;cases hr
      |ok y=>
        have:=Ik hs;rw[hs] at hr;simp only at hr
        (repeat' split at hr)<;>first
          | (cases hr;done)
          | (cases hr
             refine⟨fun b hb=> ?_,by simp⟩;obtain⟨z,_,rfl⟩:=List.mem_map.1 hb;exact this)
    · cases h
  · cases h
theorem Io {P:pQ} {α:Type} {A:α->Prop} (s:Sem α): ∀(w:wD),Calm P A s->Started w->
    ∃k r,(∀τ d j es,j.ok->Agree w k τ d->(j=noJ\/r.fails=false)-> ∃es',s.runT P (w.tp τ d j) es=(Result.tp r τ (d+k) j,es')/\More r.room es es')/\okR A r/\w.heap.size<=r.room:=by
  induction s with
  |pure a=>exact fun w h hs=>⟨0,.ok a w,fun τ d j es _ _ _=>⟨es,rfl,.refl _ _⟩,⟨h,hs⟩,nR _⟩
  |load m a k ih=>
    intro w h hs
    cases hc:w.cell? a with
    |some v=>
      obtain⟨n,r,h1,h3⟩:=ih v w (h v) hs;refine⟨n,r,fun τ d j es hj hA hx=> ?_,h3⟩;obtain⟨es',g1,g2⟩:=h1 τ d j (es.push ⟨.cell a,false,m== .atomic⟩) hj hA hx;exact⟨es',by simp only[Sem.runT,jV w τ d hj,hc];exact g1,g2.push (Ih (nL (lt_of_cell hc) h3.2))⟩
    |none=>
      cases hf:w.farLoad P a (m== .atomic) with
      |ok r0=>
        obtain⟨v,touched⟩:=r0;obtain⟨n,r,h1,h3⟩:=ih v w (h v) hs;refine⟨n,r,fun τ d j es hj hA hx=> ?_,h3⟩;obtain⟨es',g1,g2⟩:=h1 τ d j (es++touched.toArray.map (⟨.cell ·, false,m== .atomic⟩)) hj hA hx;refine⟨es',by simp only[Sem.runT,jV w τ d hj,hc,Ig P w τ d hj,hf];exact g1,g2.app fun x hx=> ?_⟩;obtain⟨y,hy,rfl⟩:=Array.mem_map.1 hx;exact⟨.inr (by simp),nL (PU hf y (by simpa using hy)) h3.2⟩
      |error e=>
        refine⟨0,.halt e w,fun τ d j es hj _ _=>⟨es, ?_,.refl _ _⟩,⟨?_,hs⟩,nR _⟩
        · simp only[Sem.runT,jV w τ d hj,hc,Ig P w τ d hj,hf];rfl
        · unfold World.farLoad at hf
          split at hf
          · split at hf<;>cases hf;trivial
          · cases hf;exact Ii _ _ _
  |store m a v k ih=>
    intro w h hs;by_cases hv:(∃c,v= .agg c)\/ ∃c,v= .tuple c
    · refine⟨0,.halt (.stuck "store: not the value of one cell") w,fun τ d j es _ _ _=>⟨es, ?_,.refl _ _⟩,⟨trivial,hs⟩,nR _⟩
      rcases hv with ⟨c,rfl⟩ |⟨c,rfl⟩<;>rfl
    have step: ∀(w0:wD) (es0:Array Event),(Sem.store m a v k).runT P w0 es0=match w0.cell? a with
        |some _=>if w0.frozen? a then (.halt (.unsupported (.unsafePointer "a write to bytes that a string shares")) w0,es0) else k.runT P (w0.setCell a v) (es0.push ⟨.cell a,true,m== .atomic⟩)
        |none=>match w0.farStore P a v (m== .atomic) with
          | .ok (w1,touched)=>k.runT P w1 (es0++touched.toArray.map (⟨.cell ·, true,m== .atomic⟩))
          | .error h=>(.halt h w0,es0):=by
      intro w0 es0
      cases v<;>first |rfl |exact absurd (.inl ⟨_,rfl⟩) hv |exact absurd (.inr ⟨_,rfl⟩) hv
    cases hc:w.cell? a with
    |some x=>
      by_cases hz:w.frozen? a=true
      · refine⟨0,.halt (.unsupported (.unsafePointer "a write to bytes that a string shares")) w,fun τ d j es hj _ _=>⟨es, ?_,.refl _ _⟩,⟨trivial,hs⟩,nR _⟩
        rw[step,jV w τ d hj,hc,CO w τ d hj,hz];rfl
      · obtain⟨n,r,h1,h3⟩:=ih (w.setCell a v) h (PK hs _ _)
        rw[show (w.setCell a v).heap.size=w.heap.size by simp[World.setCell]] at h3;refine⟨n,r,fun τ d j es hj hA hx=> ?_,h3⟩;obtain⟨es',g1,g2⟩:=h1 τ d j (es.push ⟨.cell a,true,m== .atomic⟩) hj hA hx;refine⟨es', ?_,g2.push (Ih (nL (lt_of_cell hc) h3.2))⟩;rw[step,jV w τ d hj,hc,CO w τ d hj];simp only[hz,Bool.false_eq_true,if_false,Pz w τ d hj];exact g1
    |none=>
      cases hf:w.farStore P a v (m== .atomic) with
      |ok r0=>
        obtain⟨w1,touched⟩:=r0;obtain⟨n,r,h1,h3⟩:=ih w1 h (PS hs hf);rw[(Il hf).2] at h3;have hd:w1.tape=w.tape/\w1.drawn=w.drawn:=by
          have:=CQ P w w.tape w.drawn lF a v (m== .atomic);rw[dh,hf] at this;simp only[Except.ok.injEq,Prod.mk.injEq] at this;rw[this.1];exact⟨rfl,rfl⟩
        refine⟨n,r,fun τ d j es hj hA hx=> ?_,h3⟩;obtain⟨es',g1,g2⟩:=h1 τ d j (es++touched.toArray.map (⟨.cell ·, true,m== .atomic⟩)) hj (fun i hi=>by rw[hd.1,hd.2];exact hA i hi) hx;refine⟨es', ?_,g2.app fun x hx=> ?_⟩
        · rw[step,jV w τ d hj,hc,CQ P w τ d hj,hf]
          exact g1
        · obtain⟨y,hy,rfl⟩:=Array.mem_map.1 hx
          exact⟨.inr (by simp),nL ((Il hf).1 y (by simpa using hy)) h3.2⟩
      |error e=>
        refine⟨0,.halt e w,fun τ d j es hj _ _=>⟨es, ?_,.refl _ _⟩,⟨?_,hs⟩,nR _⟩
        · rw[step,jV w τ d hj,hc,CQ P w τ d hj,hf];rfl
        · unfold World.farStore at hf
          split at hf
          · split at hf<;>cases hf;trivial
          · cases hf;exact Ii _ _ _
  |new o k ih=>
    intro w h hs;obtain⟨n,r,h1,h3⟩:=ih w.heap.size {w with heap:=w.heap.push o} (h.2 _) (PO hs h.1.1);refine⟨n,r,fun τ d j es hj hA hx=> ?_,h3.1,Nat.le_trans (by simp) h3.2⟩;obtain⟨es',g1,g2⟩:=h1 τ d j es hj hA hx;refine⟨es', ?_,g2⟩;simp only[Sem.runT,gJ];have e:({w with heap:=w.heap.push o}:wD).tp τ d j={w.tp τ d j with heap:=(w.tp τ d j).heap.push o}:=by
      unfold World.tp;simp only;rw[Px _ _ h.1.2]
    rw[<-e];exact g1
  |shape x k ih=>
    intro w h hs;obtain⟨n,r,h1,h3⟩:=ih (w.shape? x) w (h _) hs;refine⟨n,r,fun τ d j es hj hA hx=> ?_,h3⟩;obtain⟨es',g1,g2⟩:=h1 τ d j es hj hA hx;exact⟨es',by simp only[Sem.runT,Pv w τ d hj];exact g1,g2⟩
  |freeze a n k ih=>
    intro w h hs;obtain⟨m,r,h1,h3⟩:=ih (w.freeze a n) h (PN hs _ _);rw[show (w.freeze a n).heap.size=w.heap.size by unfold World.freeze;split<;>simp] at h3;have hd:(w.freeze a n).tape=w.tape/\(w.freeze a n).drawn=w.drawn:=by unfold World.freeze;split<;>exact⟨rfl,rfl⟩
    refine⟨m,r,fun τ d j es hj hA hx=> ?_,h3⟩;obtain⟨es',g1,g2⟩:=h1 τ d j es hj (fun i hi=>by rw[hd.1,hd.2];exact hA i hi) hx;exact⟨es',by simp only[Sem.runT,PD w τ d hj];exact g1,g2⟩
  |frozen a k ih=>
    intro w h hs;obtain⟨n,r,h1,h3⟩:=ih (w.frozen? a) w (h _) hs;refine⟨n,r,fun τ d j es hj hA hx=> ?_,h3⟩;obtain⟨es',g1,g2⟩:=h1 τ d j es hj hA hx;exact⟨es',by simp only[Sem.runT,CO w τ d hj];exact g1,g2⟩
  |getObj x k ih=>
    intro w h hs;have step: ∀(w0:wD) (es0:Array Event),(Sem.getObj x k).runT P w0 es0=match w0.heap[x]? with
        |some (cL ..)=>(.halt (.stuck "getObj: a row of cells") w0,es0)
        |some o=>(k o).runT P w0 (es0.push ⟨.obj x,false,o.isChan⟩)
        |none=>(.halt (.stuck "getObj: no such block") w0,es0):=by
      intro w0 es0;rw[Sem.runT]
      cases w0.heap[x]? with
      |none=>rfl
      |some o=>cases o<;>rfl
    cases ho:w.heap[x]? with
    |none=>exact⟨0,.halt (.stuck "getObj: no such block") w,fun τ d j es _ _ _=>⟨es,by rw[step,dX,ho];rfl,.refl _ _⟩,⟨trivial,hs⟩,nR _⟩
    |some o=>
      by_cases hc: ∃c t z,o= .cells c t z
      · obtain⟨c,t,z,rfl⟩:=hc
        exact⟨0,.halt (.stuck "getObj: a row of cells") w,fun τ d j es _ _ _=>⟨es,by rw[step,dX,ho];simp only[Option.map_some,og (show isFin (cL c t z)=false from rfl)];rfl,.refl _ _⟩,⟨trivial,hs⟩,nR _⟩
      · have nc: ∀(o':Obj) (w0:wD) (es0:Array Event),(∀c t z,o'≠ .cells c t z)->w0.heap[x]? =some o'->(Sem.getObj x k).runT P w0 es0=(k o').runT P w0 (es0.push ⟨.obj x,false,o'.isChan⟩):=by
          intro o' w0 es0 h1 h2;rw[step,h2]
          cases o'<;>first |rfl |exact absurd rfl (h1 _ _ _)
        by_cases hfin:isFin o=true
        · obtain rfl:=GZ hfin
          rcases h.2 with ⟨s,e⟩ |e
          · refine⟨0,.halt (.stuck s) w,fun τ d j es hj _ hx=> ?_,⟨trivial,hs⟩,nR _⟩
            rcases hx with rfl |hx
            · refine⟨es.push ⟨.obj x,false,false⟩, ?_,More.push (rP (lt_of_some ho)) (More.refl _ _)⟩
              rw[nc fin _ _ (fun c t z e=>by cases e) (by rw[dX,ho];simp[Cj]),e];rfl
            · cases hx
          · obtain⟨n,r,h1,h3⟩:=ih fin w (h.1 _ (hs _ _ ho)) hs
            refine⟨n,r,fun τ d j es hj hA hx=> ?_,h3⟩
            rcases oh hj x fin with e1 |⟨_,e1⟩
            · obtain⟨es',g1,g2⟩:=h1 τ d j (es.push ⟨.obj x,false,false⟩) hj hA hx
              refine⟨es', ?_,g2.push (rP (nL (lt_of_some ho) h3.2))⟩;rw[nc fin _ _ (fun c t z e=>by cases e) (by rw[dX,ho];simp[e1])];exact g1
            · obtain⟨es',g1,g2⟩:=h1 τ d j (es.push ⟨.obj x,false,(fQ j x fin).isChan⟩) hj hA hx
              refine⟨es', ?_,g2.push (rP (nL (lt_of_some ho) h3.2))⟩;rw[nc (fQ j x fin) _ _ (fun c t z e=>by rw[e] at e1;exact e1.elim) (by rw[dX,ho];rfl),e _ e1];exact g1
        · obtain⟨n,r,h1,h3⟩:=ih o w (h.1 _ (hs _ _ ho)) hs
          refine⟨n,r,fun τ d j es hj hA hx=> ?_,h3⟩;obtain⟨es',g1,g2⟩:=h1 τ d j (es.push ⟨.obj x,false,o.isChan⟩) hj hA hx;refine⟨es', ?_,g2.push (rP (nL (lt_of_some ho) h3.2))⟩;rw[nc o _ _ (fun c t z e=>hc ⟨c,t,z,e⟩) (by rw[dX,ho];simp[og (by simpa using hfin)])];exact g1
  |setObj x o k ih=>
    intro w h hs;have step: ∀(w0:wD) (es0:Array Event),(Sem.setObj x o k).runT P w0 es0=match w0.heap[x]? with
        |some (cL ..)=>(.halt (.stuck "setObj: a row of cells") w0,es0)
        |some _=>k.runT P {w0 with heap:=w0.heap.setIfInBounds x o} (es0.push ⟨.obj x,true,o.isChan⟩)
        |none=>(.halt (.stuck "setObj: no such block") w0,es0):=fun _ _=>rfl
    cases ho:w.heap[x]? with
    |none=>exact⟨0,.halt (.stuck "setObj: no such block") w,fun τ d j es _ _ _=>⟨es,by rw[step,dX,ho];rfl,.refl _ _⟩,⟨trivial,hs⟩,nR _⟩
    |some y=>
      by_cases hc: ∃c t z,y= .cells c t z
      · obtain⟨c,t,z,rfl⟩:=hc
        exact⟨0,.halt (.stuck "setObj: a row of cells") w,fun τ d j es _ _ _=>⟨es,by rw[step,dX,ho];simp only[Option.map_some,og (show isFin (cL c t z)=false from rfl)];rfl,.refl _ _⟩,⟨trivial,hs⟩,nR _⟩
      · have nc: ∀(o':Obj) (w0:wD) (es0:Array Event),(∀c t z,o'≠ .cells c t z)->w0.heap[x]? =some o'->(Sem.setObj x o k).runT P w0 es0=k.runT P {w0 with heap:=w0.heap.setIfInBounds x o} (es0.push ⟨.obj x,true,o.isChan⟩):=by
          intro o' w0 es0 h1 h2;rw[step,h2]
          cases o'<;>first |rfl |exact absurd rfl (h1 _ _ _)
        obtain⟨n,r,h1,h3⟩:=ih {w with heap:=w.heap.setIfInBounds x o} h.2 (Ij hs _ h.1.1);simp only[Array.size_setIfInBounds] at h3;refine⟨n,r,fun τ d j es hj hA hx=> ?_,h3⟩;obtain⟨es',g1,g2⟩:=h1 τ d j (es.push ⟨.obj x,true,o.isChan⟩) hj hA hx;refine⟨es', ?_,g2.push ?_⟩
        · have e:({w with heap:=w.heap.setIfInBounds x o}:wD).tp τ d j={w.tp τ d j with heap:=(w.tp τ d j).heap.setIfInBounds x o}:=by
            unfold World.tp;simp only;rw[Ib _ _ _ h.1.2]
          rw[nc (fQ j x y) _ _ (fun c t z e=> ?_) (by rw[dX,ho];rfl),<-e]
          · exact g1
          · rcases oh hj x y with e1 |⟨_,e1⟩
            · exact hc ⟨c,t,z,e1▸e⟩
            · rw[e] at e1;exact e1.elim
        · exact(rP (nL (lt_of_some ho) h3.2))
  |choose q k ih=>
    intro w h hs;by_cases hf:q.forced=true
    · obtain⟨n,r,h1,h3⟩:=ih 0 w (h _) hs
      refine⟨n,r,fun τ d j es hj hA hx=> ?_,h3⟩;obtain⟨es',g1,g2⟩:=h1 τ d j es hj hA hx;exact⟨es',by simp only[Sem.runT,hf,if_true];exact g1,g2⟩
    · obtain⟨n,r,h1,h3⟩:=ih (q.cut (w.tape w.drawn q)) {w with drawn:=w.drawn+1} (h _) hs
      refine⟨n+1,r,fun τ d j es hj hA hx=> ?_,h3⟩;have h0:τ d=w.tape w.drawn:=by have:=hA 0 (by omega);simpa using this
      have h4:Agree {w with drawn:=w.drawn+1} n τ (d+1):=fun j hj=>by
        have:=hA (j+1) (by omega);simp only;rw[show d+1+j=d+(j+1) by omega,show w.drawn+1+j=w.drawn+(j+1) by omega];exact this
      obtain⟨es',g1,g2⟩:=h1 τ (d+1) j es hj h4 hx;refine⟨es', ?_,g2⟩;simp only[Sem.runT,hf,Bool.false_eq_true,if_false,Cm,CB,h0];rw[show d+(n+1)=d+1+n by omega];exact g1
  |sys c k ih=>
    intro w h hs;obtain rfl:=h.1;obtain⟨n,r,h1,h3⟩:=ih (.strings w.os.env) w (h.2 _) hs;refine⟨n,r,fun τ d j es hj hA hx=> ?_,h3⟩;obtain⟨es',g1,g2⟩:=h1 τ d j (es.push ⟨.output,true,false⟩) hj hA hx;exact⟨es',g1,g2.push PG⟩
  |program k ih=>
    intro w h hs;obtain⟨n,r,h1,h3⟩:=ih P w h hs;exact⟨n,r,fun τ d j es hj hA hx=>h1 τ d j es hj hA hx,h3⟩
  |mark m k ih=>
    intro w h hs;obtain⟨n,r,h1,h3⟩:=ih w h.2 hs;refine⟨n,r,fun τ d j es hj hA hx=> ?_,h3⟩;obtain⟨es',g1,g2⟩:=h1 τ d j (es.push ⟨.mark m,false,true⟩) hj hA hx;exact⟨es',g1,g2.push (PI h.1)⟩
  |halt x=>exact fun w h hs=>⟨0,.halt x w,fun τ d j es _ _ _=>⟨es,rfl,.refl _ _⟩,⟨h,hs⟩,nR _⟩
end Go.Tp
