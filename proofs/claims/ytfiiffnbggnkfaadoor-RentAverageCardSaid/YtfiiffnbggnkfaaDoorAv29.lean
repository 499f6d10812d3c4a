/- A part of the proof of a law; no conditions of its own. -/
import Derived.Test.YtfiiffnbggnkfaaDoorAv28
open Go.RowKit renaming Below→bX
open Go renaming Calls→cF, Value→vL, World→wD
open Go.IntKind renaming i64→qi
open Go.Value renaming int→iN, slice→sL, pointer→pN
open Go.Ending renaming returned→rT
open Go.Obj renaming cells→cL
set_option maxRecDepth 100000
open Nat renaming le_refl→nR
open Go.Lib renaming hid→lH
open Go.RowKit.Below renaming refl→bR
open Go.Proofs.Tryd renaming prog→tP
open List renaming getElem?_eq_getElem→lG
open Array renaming getElem?_eq_some_iff→aS
open Array renaming getElem?_eq_getElem→aG
open List renaming getD_eq_getElem?_getD→lD
set_option maxHeartbeats 4000000
namespace Go.Proofs.YtfiiffnbggnkfaaDoor
open Go.RowKit Go.Rent Go.Tp Go.Conc
theorem a28 (n lo hi:Int) (w:wD):cF tP 28 #[iN qi n,iN qi lo,iN qi hi] w fun e w'=>e= rT (.bool (btw n lo hi))/\w=w':=by
 by_cases h1:lo<=n
 ·by_cases h2:n<=hi
  ·go_enter Tryd.func28,Tryd.ntmps28;go_wp2;go_ret;exact⟨by simp[btw,h1,h2],rfl⟩
  ·go_enter Tryd.func28,Tryd.ntmps28;go_wp2;go_ret;exact⟨by simp[btw,h1,h2],rfl⟩
 ·go_enter Tryd.func28,Tryd.ntmps28;go_wp2;go_ret;exact⟨by simp[btw];omega,rfl⟩
def insB (x:Int×Int) (lo hi:Int):Bool:=decide (x.1<=x.2/\lo<=x.1/\x.2<=hi)
theorem a6 (x y lo hi:Int) (w:wD):cF tP 6 #[.agg #[iN qi x,iN qi y],iN qi lo,iN qi hi] w fun e w'=>e= rT (.bool (insB (x,y) lo hi))/\bX w.heap.size w w':=by
 by_cases h1:x<=y
 ·by_cases h2:x≥lo
  ·by_cases h3:y<=hi
   all_goals
    go_enter Tryd.func6,Tryd.ntmps6;go_wp2;go_ret;exact⟨by simp[insB,h1,h2,h3],(bR _ _).alloc (nR _) _⟩
  ·go_enter Tryd.func6,Tryd.ntmps6;go_wp2;go_ret;exact⟨by simp[insB];omega,(bR _ _).alloc (nR _) _⟩
 ·go_enter Tryd.func6,Tryd.ntmps6;go_wp2;go_ret;exact⟨by simp[insB];omega,(bR _ _).alloc (nR _) _⟩
theorem a7 (x y n:Int) (hx:0<=x/\x<=y/\y<=9) (hn:0<=n/\n<=65535) (w:wD):cF tP 7 #[.agg #[iN qi x,iN qi y],iN qi n] w fun e w'=>(∃v,e= rT (iN qi v)/\x<=v/\v<=y)/\bX w.heap.size w w':=by
 obtain⟨d,rfl⟩: ∃d:Int,y=x+d:=⟨y-x,by omega⟩;have hw1:IntKind.wrap qi (x+d-x)=d:=by rw[show x+d-x=d by omega];exact IntWalk.i64_in _ (by omega)
 obtain⟨m,hm⟩: ∃m,d+1=m:=⟨_,rfl⟩;have hw2:IntKind.wrap qi (d+1)=m:=by rw[hm];exact IntWalk.i64_in _ (by omega)
 have hb1:=Int.emod_nonneg n (show m≠0 by omega);have hb2:=Int.emod_lt_of_pos n (show 0<m by omega);have hrem:Int.tmod n m=n % m:=Int.tmod_eq_emod_of_nonneg hn.1;obtain⟨k,hk⟩: ∃k,n % m=k:=⟨_,rfl⟩;rw[hk] at hrem hb1 hb2;have hmz: ¬m=0:=by omega
 have hwk:IntKind.wrap qi k=k:=IntWalk.i64_in _ (by omega);have hw3:IntKind.wrap qi (x+k)=x+k:=IntWalk.i64_in _ (by omega);have HE:Hid (x<=x+k/\x+k<=x+d):=lH ⟨by omega,by omega⟩;have hm0:=lH hm;clear hx hn hb1 hb2 hm hk;go_enter Tryd.func7,Tryd.ntmps7
 go_wp2_with fail
 refine aif 12 12 (fun u=>(w.alloc (cL #[iN qi x,iN qi (x+d)] 33)).drew=u) (by kernel_rfl) ?_;refine ahN 0 (pN (some ⟨w.heap.size,0,none⟩)) (show (w.alloc (cL #[iN qi x,iN qi (x+d)] 33)).drew=(w.alloc (cL #[iN qi x,iN qi (x+d)] 33)).drew from rfl) ?_ (hr:=fun u hu=>by subst hu;go_simp);refine ahN 1 (iN qi x) (show (w.alloc (cL #[iN qi x,iN qi (x+d)] 33)).drew=(w.alloc (cL #[iN qi x,iN qi (x+d)] 33)).drew from rfl) ?_ (hr:=fun u hu=>by subst hu;go_simp);refine ahN 2 (iN qi n) (show (w.alloc (cL #[iN qi x,iN qi (x+d)] 33)).drew=(w.alloc (cL #[iN qi x,iN qi (x+d)] 33)).drew from rfl) ?_ (hr:=fun u hu=>by subst hu;go_simp);refine ahN 3 (pN (some ⟨w.heap.size,1,none⟩)) (show (w.alloc (cL #[iN qi x,iN qi (x+d)] 33)).drew=(w.alloc (cL #[iN qi x,iN qi (x+d)] 33)).drew from rfl) ?_ (hr:=fun u hu=>by subst hu;go_simp);refine ahN 4 (iN qi (x+d)) (show (w.alloc (cL #[iN qi x,iN qi (x+d)] 33)).drew=(w.alloc (cL #[iN qi x,iN qi (x+d)] 33)).drew from rfl) ?_ (hr:=fun u hu=>by subst hu;go_simp);refine ahN 5 (pN (some ⟨w.heap.size,0,none⟩)) (show (w.alloc (cL #[iN qi x,iN qi (x+d)] 33)).drew=(w.alloc (cL #[iN qi x,iN qi (x+d)] 33)).drew from rfl) ?_ (hr:=fun u hu=>by subst hu;go_simp);refine ahN 6 (iN qi x) (show (w.alloc (cL #[iN qi x,iN qi (x+d)] 33)).drew=(w.alloc (cL #[iN qi x,iN qi (x+d)] 33)).drew from rfl) ?_ (hr:=fun u hu=>by subst hu;go_simp);refine ahN 7 (iN qi d) (show (w.alloc (cL #[iN qi x,iN qi (x+d)] 33)).drew=(w.alloc (cL #[iN qi x,iN qi (x+d)] 33)).drew from rfl) ?_ (hr:=fun u hu=>by subst hu;go_simp);refine ahN 8 (iN qi m) (show (w.alloc (cL #[iN qi x,iN qi (x+d)] 33)).drew=(w.alloc (cL #[iN qi x,iN qi (x+d)] 33)).drew from rfl) ?_ (hr:=fun u hu=>by subst hu;go_simp);refine ahN 9 (iN qi k) (show (w.alloc (cL #[iN qi x,iN qi (x+d)] 33)).drew=(w.alloc (cL #[iN qi x,iN qi (x+d)] 33)).drew from rfl) ?_ (hr:=fun u hu=>by subst hu;go_simp);refine ahN 10 (iN qi (x+k)) (show (w.alloc (cL #[iN qi x,iN qi (x+d)] 33)).drew=(w.alloc (cL #[iN qi x,iN qi (x+d)] 33)).drew from rfl) ?_ (hr:=fun u hu=>by subst hu;go_simp);refine ahN 11 (iN qi (x+k)) (show (w.alloc (cL #[iN qi x,iN qi (x+d)] 33)).drew=(w.alloc (cL #[iN qi x,iN qi (x+d)] 33)).drew from rfl) ?_ (hr:=fun u hu=>by subst hu;go_simp);refine ahZ ?_;go_simp;go_wp2;go_ret;exact⟨⟨x+k,rfl,HE.out⟩,((bR _ _).alloc (nR _) _).drew⟩
theorem ajA (a b:Int) (w:wD):cF tP 8 #[iN qi a,iN qi b] w fun e w'=>e= rT (.agg #[iN qi a,iN qi b])/\bX w.heap.size w w':=by
 go_enter Tryd.func8,Tryd.ntmps8;go_wp2;exact bodyPost_ret (v:= .agg #[iN qi a,iN qi b]) (by simp[results,Tryd.results8,go_sem]) rfl ⟨rfl,(bR _ _).alloc (nR _) _⟩
theorem aju {w:wD} {b p:Nat} {h x y:Int} {t1 t2 t3:Option Addr} {n1 n2 n3 m1 m2 m3:Nat} (r:dW w b (iN qi h) (sL t1 n1 m1) (sL t2 n2 m2) (sL t3 n3 m3)) (h0:w.cell? ⟨b,p,none⟩=some (iN qi x)) (h1:w.cell? ⟨b,p+1,none⟩=some (iN qi y)):3<p:=by
 rcases p with _ |_ |_ |_ |p
 ·rw[Nat.zero_add,r.c1] at h1;cases h1
 ·rw[Nat.zero_add,r.c1] at h0;cases h0
 ·rw[show 0+1+1=2 from rfl,r.c2] at h0;cases h0
 ·rw[show 0+1+1+1=3 from rfl,r.c3] at h0;cases h0
 ·omega
theorem ajT {w:wD} {b p:Nat} {h:Int} {s:ByteArray} {t1 t2 t3:Option Addr} {n1 n2 n3 m1 m2 m3:Nat} (r:dW w b (iN qi h) (sL t1 n1 m1) (sL t2 n2 m2) (sL t3 n3 m3)) (h0:w.cell? ⟨b,p,none⟩=some (.string s)):3<p:=by
 rcases p with _ |_ |_ |_ |p
 ·rw[r.c0] at h0;cases h0
 ·rw[Nat.zero_add,r.c1] at h0;cases h0
 ·rw[show 0+1+1=2 from rfl,r.c2] at h0;cases h0
 ·rw[show 0+1+1+1=3 from rfl,r.c3] at h0;cases h0
 ·omega
theorem aB.set {w:wD} {b k:Nat} {h:Int} {t1 t2 t3:Option Addr} {n1 n2 n3 m1 m2 m3:Nat} {V:BkV} {B:Bk} (hs:aB w V B) (r:dW w b (iN qi h) (sL t1 n1 m1) (sL t2 n2 m2) (sL t3 n3 m3)) (hk:k<=3) (v:vL):aB (w.setCell ⟨b,k,none⟩ v) V B:=by
 have keep: ∀{c o:Nat} {x:vL},w.cell? ⟨c,o,none⟩=some x->(c=b->3<o)->(w.setCell ⟨b,k,none⟩ v).cell? ⟨c,o,none⟩=some x:=fun {c o x} h0 h1=>by
  rw[World.cell?_setCell_other _ _ _ _ (by intro e;simp only[Addr.mk.injEq] at e;have:=h1 e.1.symm;omega)];exact h0
 have band: ∀{sa:Option Addr} {l:List (Int×Int)},SlB w sa l->SlB (w.setCell ⟨b,k,none⟩ v) sa l:=fun {sa l} hb i x hx=>by
  obtain⟨c,o,e,y0,y1⟩:=hb i x hx;have hlt:c=b->3<o+i*2:=fun e=>by subst e;exact aju r y0 y1
  exact⟨c,o,e,keep y0 hlt,keep y1 fun e=>by have:=hlt e;omega⟩
 refine⟨fun i t ht=> ?_,fun i L hL=> ?_,fun i L hL=> ?_,hs.nt,hs.nl,hs.np,hs.tc⟩
 ·obtain⟨c,o,e,y0⟩:=hs.towns i t ht;exact⟨c,o,e,keep y0 fun e=>by subst e;exact ajT r y0⟩
 ·obtain⟨c,o,sa,sc,e,y0,y1,y2,y3,y4⟩:=hs.links i L hL;have hlt:c=b->3<o+i*3:=fun e=>by subst e;exact aju r y0 y1
  exact⟨c,o,sa,sc,e,keep y0 hlt,keep y1 fun e=>by have:=hlt e;omega,keep y2 fun e=>by have:=hlt e;omega,band y3,y4⟩
 ·obtain⟨c,o,sa,sc,e,y0,y1,y2,y3,y4⟩:=hs.pairs i L hL;have hlt:c=b->3<o+i*3:=fun e=>by subst e;exact aju r y0 y1
  exact⟨c,o,sa,sc,e,keep y0 hlt,keep y1 fun e=>by have:=hlt e;omega,keep y2 fun e=>by have:=hlt e;omega,band y3,y4⟩
theorem apY: ∀(l:List (Int×Int)),(∀x∈l,0<=x.1/\x.1<=x.2/\x.2<=9)->0<=ajj l/\ajj l<=9*l.length/\0<=alA l/\alA l<=9*l.length
 | [],_=>by simp[ajj,alA]
 |x::l,h=>by
  have ih:=apY l fun y hy=>h y (List.mem_cons_of_mem _ hy);have hx:=h x List.mem_cons_self;simp only[ajj,alA,List.map_cons,List.sum_cons,List.length_cons] at ih ⊢;omega
theorem aqi {l:List (Int×Int)} {k:Nat} (h:k<l.length):ajj (l.take (k+1))=ajj (l.take k)+(bnd l k).1/\alA (l.take (k+1))=alA (l.take k)+(bnd l k).2:=by
 have e:bnd l k=l[k]:=by unfold bnd;rw[lD,lG h];rfl
 rw[e,List.take_succ_eq_append_getElem h];unfold ajj alA;simp only[List.map_append,List.sum_append,List.map_cons,List.map_nil,List.sum_cons,List.sum_nil,Int.add_zero,and_self]
theorem a29 (l:List (Int×Int)) (xa:Option Addr) (xc:Nat) (w:wD) (hx:SlB w xa l) (hl:l.length<=4) (hb: ∀x∈l,0<=x.1/\x.1<=x.2/\x.2<=9):
  cF tP 29 #[sL xa l.length xc] w fun e w'=>e= rT (.tuple #[iN qi (ajj l),iN qi (alA l)])/\bX w.heap.size w w':=by
 have HX:=lH hx;have HB:=lH hb;have HL:=lH hl;clear hx hb hl;go_enter Tryd.func29,Tryd.ntmps29
 go_wp2_with fail
 go_loopw [2,3,8] (fun a b i wr=> ∃k:Nat,k<=l.length/\i= iN qi (k:Int)/\a= iN qi (ajj (l.take k))/\b= iN qi (alA (l.take k))/\bX w.heap.size w wr) (fun _ _ i _=>l.length-(intOf i).toNat)
 case atStart=>exact⟨0,Nat.zero_le _,rfl,rfl,rfl,bR _ _⟩
 case round=>
  obtain⟨k,hk,rfl,rfl,rfl,hbw⟩:=hrel;have hl:=HL.out;by_cases hlt:k<l.length
  ·obtain⟨tb,tofs,rfl,h1,h2⟩:=Nl (HX.out.below hbw (nR _)) hlt;have ht:=aqi hlt;have b1:=apY (l.take k) fun x hx=>HB.out x (List.mem_of_mem_take hx);have b2:=apY (l.take (k+1)) fun x hx=>HB.out x (List.mem_of_mem_take hx);rw[List.length_take,Nat.min_eq_left (by omega)] at b1 b2;have HT:=lH ht;rw[ht.1,ht.2] at b2;generalize bnd l k=x at *;obtain⟨p,q⟩:=x;simp only at h1 h2 b2;generalize hlo:ajj (l.take k)=lo at *;generalize hto:alA (l.take k)=to at *;have hw1:IntKind.wrap qi (lo+p)=lo+p:=IntWalk.i64_in _ (by omega);have hw2:IntKind.wrap qi (to+q)=to+q:=IntWalk.i64_in _ (by omega);have hlt2:(k:Int)<(l.length:Int):=by omega
   have HLO:=lH hlo;have HTO:=lH hto;have HBW:=lH hbw;clear ht b1 b2 hlo hto hbw
   go_wp2_with fail
   go_quiet (fail)
   go_wp2;go_roundw
   case rel=>exact⟨k+1,by omega,by go_num,by rw[HT.out.1],by rw[HT.out.2],aV (HBW.out.alloc HBW.out.size _) _⟩
   case measure=>simp[intOf];omega
  ·have hke:k=l.length:=by omega
   subst hke;rw[List.take_length] at *;have HBW:=lH hbw;clear hbw;go_wp2
   go_ret2
   exact⟨rfl,HBW.out⟩
theorem a30 (x y:Int) (w:wD):cF tP 30 #[.agg #[iN qi x,iN qi y]] w fun e w'=>e= rT (.agg #[iN qi (Rw x),iN qi (Rw y)])/\bX w.heap.size w w':=by
 have HE: ∀n,Rw n=if 5<n then 5 else if 0<n then n else 0:=fun n=>by unfold Rw;split<;>(try split)<;>omega
 have hx:=HE x;have hy:=HE y;generalize Rw x=p at *;generalize Rw y=q at *;clear HE;by_cases h1:5<x<;>by_cases h2:0<x<;>by_cases h3:5<y<;>by_cases h4:0<y
 all_goals first
  | (exfalso;omega)
  |simp only[h1,h2,h3,h4,if_true,if_false] at hx hy
 all_goals
  subst hx hy;go_enter Tryd.func30,Tryd.ntmps30
  go_wp2_with fail
  refine(ajA _ _ _).mono ?_;rintro e w' ⟨rfl,hb1⟩;have k0:w'.cell? ⟨w.heap.size+1,0,none⟩=some (iN qi 0):=by rw[(ak hb1).1 _ _ (by simp)];go_simp
  have k1:w'.cell? ⟨w.heap.size+1,1,none⟩=some (iN qi 0):=by rw[(ak hb1).1 _ _ (by simp)];go_simp
  have f0:w'.frozen? ⟨w.heap.size+1,0,none⟩=false:=by rw[(ak hb1).2 _ _ (by simp)];go_simp
  have f1:w'.frozen? ⟨w.heap.size+1,1,none⟩=false:=by rw[(ak hb1).2 _ _ (by simp)];go_simp
  have HB:=lH (((bR w.heap.size w).alloc (nR _) _).alloc (by simp) _ |>.trans (hb1.mono (by simp;omega)));clear hb1;go_wp2;exact bodyPost_ret (v:= .agg #[iN qi _,iN qi _]) (by simp[results,Tryd.results30,go_sem,k0,k1]) rfl ⟨rfl,(HB.out.setCell (p:=⟨w.heap.size+1,0,none⟩) (by simp) _).setCell (p:=⟨w.heap.size+1,1,none⟩) (by simp) _⟩
theorem a9 (l:List (Int×Int)) (xa:Option Addr) (xc:Nat) (w:wD) (hx:SlB w xa l) (hl:1<=l.length/\l.length<=4) (hb: ∀x∈l,0<=x.1/\x.1<=x.2/\x.2<=9):
  cF tP 9 #[sL xa l.length xc,iN qi 1] w fun e w'=>e= rT (.tuple #[.agg #[iN qi (WO l).1,iN qi (WO l).2],iN qi 0])/\bX w.heap.size w w':=by
 have hbt:btw (l.length:Int) 1 4=true:=by simp[btw];omega
 have H29:Hid (∀u,bX w.heap.size w u->cF tP 29 #[sL xa l.length xc] u fun e w'=>e= rT (.tuple #[iN qi (ajj l),iN qi (alA l)])/\bX u.heap.size u w'):=lH fun u hu=>a29 l xa xc u (hx.below hu (nR _)) hl.2 hb;have hbd:=apY l hb;have hn0: ¬l= []:=by rintro rfl;simp at hl
 have hw1:IntKind.wrap qi (ajj l)=ajj l:=IntWalk.i64_in _ (by omega);have hw2:IntKind.wrap qi (alA l)=alA l:=IntWalk.i64_in _ (by omega);have hd1:Int.tdiv (ajj l) (l.length:Int)=(WO l).1:=Int.tdiv_eq_ediv_of_nonneg hbd.1;have hd2:Int.tdiv (alA l) (l.length:Int)=(WO l).2:=Int.tdiv_eq_ediv_of_nonneg hbd.2.2.1;have hq1:0<=(WO l).1/\(WO l).1<=36:=⟨Int.ediv_nonneg hbd.1 (by omega),Int.le_trans (Int.ediv_le_self _ hbd.1) (by omega)⟩;have hq2:0<=(WO l).2/\(WO l).2<=36:=⟨Int.ediv_nonneg hbd.2.2.1 (by omega),Int.le_trans (Int.ediv_le_self _ hbd.2.2.1) (by omega)⟩;have hw3:IntKind.wrap qi (WO l).1=(WO l).1:=IntWalk.i64_in _ (by omega);have hw4:IntKind.wrap qi (WO l).2=(WO l).2:=IntWalk.i64_in _ (by omega);have HX:=lH hx;have HB:=lH hb;have HL:=lH hl;have H1:=lH hn0;have H2:=lH (And.intro hw1 hw2);have H3:=lH (And.intro hd1 hd2);have H4:=lH (And.intro hw3 hw4);generalize (WO l).1=p at *;generalize (WO l).2=q at *;generalize ajj l=lo at *;generalize alA l=to at *;clear hx hb hl hn0 hw1 hw2 hd1 hd2 hq1 hq2 hw3 hw4 hbd;have hl:=HL.out;go_enter Tryd.func9,Tryd.ntmps9
 go_wp2_with (go_at_call 28;refine(a28 _ _ _ _).mono ?_;rintro e w' ⟨rfl,rfl⟩;rw[hbt])
 go_loopw [17] (fun i wr=> ∃k:Nat,k<=l.length/\i= iN qi (k:Int)/\bX (w.heap.size+1) (w.alloc (cL #[iN qi 0,iN qi 0] 33)) wr) (fun i _=>l.length-(intOf i).toNat)
 case atStart=>exact⟨0,Nat.zero_le _,rfl,bR _ _⟩
 case round=>
  obtain⟨k,hk,rfl,hbw⟩:=hrel;have hb1:bX w.heap.size w wr:=((bR w.heap.size w).alloc (nR _) _).trans (hbw.mono (by simp));by_cases hlt:k<l.length
  ·obtain⟨tb,tofs,rfl,h1,h2⟩:=Nl (HX.out.below hb1 (nR _)) hlt;have e:bnd l k=l[k]:=by unfold bnd;rw[lD,lG hlt];rfl
   have hok:=HB.out l[k] (List.getElem_mem hlt);rw[<-e] at hok;generalize bnd l k=x at *;obtain⟨x,y⟩:=x;simp only at h1 h2 hok;have t1: ¬x<0:=by omega
   have t2: ¬x>y:=by omega
   have t3: ¬y>9:=by omega
   have hlt2:(k:Int)<(l.length:Int):=by omega
   have HBW:=lH hbw;clear hbw hb1 hok e;go_wp2;go_roundw
   case rel=>exact⟨k+1,by omega,by go_num,HBW.out.alloc (by have:=HBW.out.size;simpa using this) _⟩
   case measure=>simp[intOf];omega
  ·have hke:k=l.length:=by omega
   subst hke;have H29':=lH (H29.out wr hb1);have HBW:=lH hbw;have HB1:=lH hb1;have hb4:btw 1 1 4=true:=by decide
   clear hbw hb1
   go_wp2_with (go_at_call 28;refine(a28 _ _ _ _).mono ?_;rintro e w' ⟨rfl,rfl⟩;rw[hb4])
   refine H29'.out.mono ?_;rintro e W2 ⟨rfl,hb2⟩;have hb3:bX (w.heap.size+1) (w.alloc (cL #[iN qi 0,iN qi 0] 33)) W2:=HBW.out.trans (hb2.mono (by have:=HBW.out.size;simpa using this));have k0:W2.cell? ⟨w.heap.size,0,none⟩=some (iN qi 0):=by rw[(ak hb3).1 _ _ (by omega)];go_simp
   have k1:W2.cell? ⟨w.heap.size,1,none⟩=some (iN qi 0):=by rw[(ak hb3).1 _ _ (by omega)];go_simp
   have f0:W2.frozen? ⟨w.heap.size,0,none⟩=false:=by rw[(ak hb3).2 _ _ (by omega)];go_simp
   have f1:W2.frozen? ⟨w.heap.size,1,none⟩=false:=by rw[(ak hb3).2 _ _ (by omega)];go_simp
   have HB2:=lH (HB1.out.trans (hb2.mono HB1.out.size)).drew;have hn0:=H1.out;obtain⟨hw1,hw2⟩:=H2.out;obtain⟨hd1,hd2⟩:=H3.out;obtain⟨hw3,hw4⟩:=H4.out;clear hb2 hb3
   go_wp2_with fail
   refine aif 13 15 (fun u=>W2.drew=u) (by kernel_rfl) ?_;refine ahN 0 (iN qi 1) (show W2.drew=W2.drew from rfl) ?_ (hr:=fun u hu=>by subst hu;go_simp);refine ahN 1 (iN qi lo) (show W2.drew=W2.drew from rfl) ?_ (hr:=fun u hu=>by subst hu;go_simp);refine ahN 2 (iN qi lo) (show W2.drew=W2.drew from rfl) ?_ (hr:=fun u hu=>by subst hu;go_simp);refine ahN 3 (sL xa l.length xc) (show W2.drew=W2.drew from rfl) ?_ (hr:=fun u hu=>by subst hu;go_simp);refine ahN 4 (iN qi (l.length:Int)) (show W2.drew=W2.drew from rfl) ?_ (hr:=fun u hu=>by subst hu;go_simp);refine ahN 5 (iN qi p) (show W2.drew=W2.drew from rfl) ?_ (hr:=fun u hu=>by subst hu;go_simp);refine ahN 6 (iN qi 1) (show W2.drew=W2.drew from rfl) ?_ (hr:=fun u hu=>by subst hu;go_simp);refine ahN 7 (iN qi to) (show W2.drew=W2.drew from rfl) ?_ (hr:=fun u hu=>by subst hu;go_simp);refine ahN 8 (iN qi to) (show W2.drew=W2.drew from rfl) ?_ (hr:=fun u hu=>by subst hu;go_simp);refine ahN 9 (sL xa l.length xc) (show W2.drew=W2.drew from rfl) ?_ (hr:=fun u hu=>by subst hu;go_simp);refine ahN 10 (iN qi (l.length:Int)) (show W2.drew=W2.drew from rfl) ?_ (hr:=fun u hu=>by subst hu;go_simp);refine ahN 11 (iN qi q) (show W2.drew=W2.drew from rfl) ?_ (hr:=fun u hu=>by subst hu;go_simp);refine ahN 12 (.agg #[iN qi p,iN qi q]) (show W2.drew=W2.drew from rfl) ?_ (hr:=fun u hu=>by subst hu;go_simp);refine ahQ 13 (h:=ah1 (w':=(W2.drew.setCell ⟨w.heap.size,0,none⟩ (iN qi p)).setCell ⟨w.heap.size,1,none⟩ (iN qi q)) (by go_simp) ⟨fun h=>absurd rfl h.1, ?_⟩);refine ahQ 14 (h:=ah0 (v:= iN qi 0) (w':=(W2.drew.setCell ⟨w.heap.size,0,none⟩ (iN qi p)).setCell ⟨w.heap.size,1,none⟩ (iN qi q)) (by go_simp) ⟨fun h=>absurd rfl h.2, ?_⟩);refine ahZ ?_;go_simp;go_wp2;exact bodyPost_ret (v:= .tuple #[.agg #[iN qi p,iN qi q],iN qi 0]) (by simp[results,Tryd.results9,go_sem,k0,k1]) rfl ⟨rfl,(HB2.out.setCell (p:=⟨w.heap.size,0,none⟩) (nR _) _).setCell (p:=⟨w.heap.size,1,none⟩) (nR _) _⟩
end Go.Proofs.YtfiiffnbggnkfaaDoor
namespace Go.Proofs.YtfiiffnbggnkfaaDoor
open Go.RowKit Go.Tp
section
variable {P:Program} {ops:Array Oper} {Q:Exit->Act->wD->Prop} {z:Nat} {S:wD->Prop}
def an6 (ops:Array Oper) (i:Nat):Option Tmp:=(ops[i]?).bind (·.dst)
def alB (ops:Array Oper) (vs:Nat->vL):List Nat->Act->Act
 | [],a=>a
 |i::l,a=>alB ops vs l (a.put (an6 ops i) (vs i))
def an5:List Nat->Array Bool->Array Bool
 | [],l=>l
 |i::r,l=>an5 r (l.setIfInBounds i true)
theorem ap9 (vs:Nat->vL) (i:Nat): ∀(l:List Nat) (a:Act),alB ops vs (l++ [i]) a=(alB ops vs l a).put (an6 ops i) (vs i)
 | [],_=>rfl
 |_::l,_=>ap9 vs i l _
theorem ap4 (i:Nat): ∀(l:List Nat) (s:Array Bool),an5 (l++ [i]) s=(an5 l s).setIfInBounds i true
 | [],_=>rfl
 |_::l,_=>ap4 i l _
theorem aqa {vs vs':Nat->vL}: ∀(l:List Nat) (a:Act),(∀i∈l,vs i=vs' i)->alB ops vs l a=alB ops vs' l a
 | [],_,_=>rfl
 |j::l,a,h=>by
  unfold alB;rw[h j List.mem_cons_self];exact aqa l _ fun i hi=>h i (List.mem_cons_of_mem _ hi)
theorem aqj {vs:Nat->vL} {l l':List Nat} (hp:l.Perm l') (hd: ∀i∈l,∀j∈l,i≠j-> ∀d,an6 ops i=some d->an6 ops j≠some d): ∀a,alB ops vs l a=alB ops vs l' a:=by
 induction hp with
 |nil=>exact fun _=>rfl
 |cons x _ ih=>exact fun a=>ih (fun i hi j hj=>hd i (List.mem_cons_of_mem _ hi) j (List.mem_cons_of_mem _ hj)) _
 |swap x y l=>
  intro a;by_cases e:x=y
  ·subst e;rfl
  ·show alB ops vs l ((a.put _ _).put _ _)=alB ops vs l ((a.put _ _).put _ _)
   rw[Act.put_comm a _ _ (fun d h=>hd y (by simp) x (by simp) (Ne.symm e) d h)]
 |trans h1 _ ih1 ih2=>
  intro a;rw[ih1 hd a];exact ih2 (fun i hi j hj=>hd i (h1.mem_iff.2 hi) j (h1.mem_iff.2 hj)) a
theorem aqk {l l':List Nat} (hp:l.Perm l'): ∀s,an5 l s=an5 l' s:=by
 induction hp with
 |nil=>exact fun _=>rfl
 |cons x _ ih=>exact fun s=>ih _
 |swap x y l=>
  intro s;by_cases e:x=y
  ·subst e;rfl
  ·show an5 l ((s.setIfInBounds _ _).setIfInBounds _ _)=an5 l ((s.setIfInBounds _ _).setIfInBounds _ _)
   rw[Array.setIfInBounds_comm _ _ (Ne.symm e)]
 |trans _ _ ih1 ih2=>exact fun s=>(ih1 s).trans (ih2 s)
theorem aql {a:Act} {o:Option Tmp} {v:vL} {t:Nat} (h:o≠some t):(a.put o v).tmps[t]? =a.tmps[t]? :=by
 cases o with
 |none=>rfl
 |some d=>exact Array.getElem?_setIfInBounds_ne (fun e=>h (by rw[e]))
theorem aqb (a:Act) (o:Option Tmp) (v:vL):(a.put o v).tmps.size=a.tmps.size:=by
 cases o with
 |none=>rfl
 |some d=>simp[Act.put]
theorem ap5 {vs:Nat->vL} {t:Nat}: ∀(l:List Nat) (a:Act),(∀i∈l,an6 ops i≠some t)->(alB ops vs l a).tmps[t]? =a.tmps[t]?
 | [],_,_=>rfl
 |j::l,a,h=>by
  unfold alB;rw[ap5 l _ fun i hi=>h i (List.mem_cons_of_mem _ hi)];exact aql (h j List.mem_cons_self)
theorem aqc {vs:Nat->vL} {t k:Nat} (hk:an6 ops k=some t): ∀(l:List Nat) (a:Act),k∈l->l.Nodup->(∀j∈l,j≠k->an6 ops j≠some t)->t<a.tmps.size->(alB ops vs l a).tmps[t]? =some (vs k)
 | [],_,h,_,_,_=>by cases h
 |j::l,a,h,hn,hd,hs=>by
  unfold alB;rw[List.nodup_cons] at hn;by_cases e:j=k
  ·subst e;rw[ap5 l _ fun i hi=>hd i (List.mem_cons_of_mem _ hi) (fun e=>hn.1 (e▸hi)),hk];simp[Act.put,hs]
  ·refine aqc hk l _ ?_ hn.2 (fun i hi=>hd i (List.mem_cons_of_mem _ hi)) (by rw[aqb];exact hs)
   rcases List.mem_cons.1 h with h |h
   ·exact absurd h.symm e
   ·exact h
theorem apU: ∀(l:List Nat) (s:Array Bool) (j:Nat) (b:Bool),j∉l->(an5 l s).getD j b=s.getD j b
 | [],_,_,_,_=>rfl
 |i::l,s,j,b,h=>by
  unfold an5;rw[apU l _ j b fun hj=>h (List.mem_cons_of_mem _ hj),getD_set_ne b (fun e=>h (by rw[e];exact List.mem_cons_self))]
theorem apZ: ∀(l:List Nat) (s:Array Bool) (j:Nat) (b:Bool),j∈l->j<s.size->(an5 l s).getD j b=true
 | [],_,_,_,h,_=>by cases h
 |i::l,s,j,b,h,hs=>by
  unfold an5;by_cases hj:j∈l
  ·exact apZ l _ j b hj (by simpa using hs)
  ·rw[apU l _ j b hj]
   rcases List.mem_cons.1 h with rfl |h
   ·simp[hs]
   ·exact absurd h hj
theorem ap0: ∀{l m:List Nat},l.Nodup->(∀i∈l,i∈m)->l.length<=m.length
 | [],_,_,_=>Nat.zero_le _
 |x::l,m,hn,hs=>by
  rw[List.nodup_cons] at hn;have h1:=ap0 (l:=l) (m:=m.erase x) hn.2 fun i hi=>(List.mem_erase_of_ne (fun e:i=x=>hn.1 (e▸hi))).2 (hs i (List.mem_cons_of_mem _ hi));have h2:=List.length_erase_of_mem (hs x List.mem_cons_self);have h3:=List.length_pos_of_mem (hs x List.mem_cons_self);simp only[List.length_cons];omega
def needs (ops:Array Oper) (i j:Nat):Bool:=((ops[i]?).map fun o=>o.after.any fun e=>Region.binds .any e&&(e.on==j)).getD false
def ap6 (ops:Array Oper) (listed:Array Bool) (pool:List Nat):Bool:=
 decide pool.Nodup&&listed.size==ops.size&&alz ops listed&&
 (pool.all fun i=>decide (i<ops.size)&& !listed.getD i true&&((ops[i]?).map fun o=>o.guard.isNone).getD false)&&
 ((List.range pool.length).all fun k=>(List.range ops.size).all fun j=> !needs ops (pool.getD k 0) j||listed.getD j false||(pool.take k).contains j)&&
 ((List.range ops.size).all fun j=>pool.contains j||listed.getD j false||pool.all fun i=>aji ops 8 j i)&&
 (pool.all fun i=>pool.all fun j=>i==j||(an6 ops i).isNone|| !(an6 ops i==an6 ops j))&&
 ((List.range ops.size).all fun i=>((ops[i]?).map fun o=>o.after.all fun e=>decide (e.on<ops.size)).getD false)
structure aqm (ops:Array Oper) (listed:Array Bool) (pool:List Nat):Prop where
 nd:pool.Nodup
 sz:listed.size=ops.size
 shut:Shut ops listed
 un: ∀i∈pool,i<ops.size/\listed.getD i true=false/\ ∃o,ops[i]? =some o/\o.guard=none
 topo: ∀k,k<pool.length-> ∀j,needs ops (pool.getD k 0) j=true->listed.getD j false=true\/j∈pool.take k
 out: ∀j,j<ops.size->j∉pool->listed.getD j false=false-> ∀i∈pool,aji ops 8 j i=true
 dst: ∀i∈pool,∀j∈pool,i≠j-> ∀d,an6 ops i=some d->an6 ops j≠some d
theorem aqn {i j:Nat} {o:Oper} (ho:ops[i]? =some o) {e:Edge} (he:e∈o.after) (hb:Region.binds .any e=true) (hj:e.on=j):needs ops i j=true:=by
 unfold needs;rw[ho];simp only[Option.map_some,Option.getD_some,Array.any_eq_true,Bool.and_eq_true,beq_iff_eq];obtain⟨k,hk,rfl⟩:=Array.getElem_of_mem he;exact⟨k,hk,hb,hj⟩
theorem aqo {listed:Array Bool} {pool:List Nat} (h:ap6 ops listed pool=true):aqm ops listed pool:=by
 unfold ap6 at h;simp only[Bool.and_eq_true,decide_eq_true_eq,beq_iff_eq,List.all_eq_true,List.mem_range,Bool.or_eq_true,Bool.not_eq_true',List.contains_iff_mem] at h;obtain⟨⟨⟨⟨⟨⟨⟨h1,h2⟩,h3⟩,h4⟩,h5⟩,h6⟩,h7⟩,h8⟩:=h;refine⟨h1,h2,ajm h3,fun i hi=> ?_,fun k hk j hn=> ?_,fun j hj hp hl i hi=> ?_,fun i hi j hj hne d hd hd2=> ?_⟩
 ·obtain⟨⟨a,b⟩,c⟩:=h4 i hi;refine⟨a,b,ops[i],aG a, ?_⟩;rw[aG a] at c;simpa using c
 ·have hj:j<ops.size:=by
   have hk2:pool.getD k 0∈pool:=by rw[lD,lG hk];exact List.getElem_mem hk
   have hlt:=(h4 _ hk2).1.1;have h9:=h8 _ hlt;rw[aG hlt] at h9;unfold needs at hn;rw[aG hlt] at hn;simp only[Option.map_some,Option.getD_some,Array.any_eq_true,Array.all_eq_true,Bool.and_eq_true,beq_iff_eq,decide_eq_true_eq] at hn h9;obtain⟨x,hx,_,e⟩:=hn;rw[<-e];exact h9 x hx
  rcases h5 k hk j hj with (h |h) |h
  ·rw[hn] at h;cases h
  ·exact .inl h
  ·exact .inr h
 ·rcases h6 j hj with (h |h) |h
  ·exact absurd h hp
  ·rw[hl] at h;cases h
  ·exact h i hi
 ·rcases h7 i hi j hj with (h |h) |h
  ·exact hne h
  ·rw[hd] at h;cases h
  ·rw[hd,hd2] at h;simp at h
theorem aqp (pool:List Nat) (R:Nat->vL->wD->Prop) (al:Nat->Bool) {n:Nat} {listed:Array Bool} {a:Act} {w:wD}
    (hok:ap6 ops listed pool=true)
    (hstab: ∀i v u u',R i v u->bX u.heap.size u u'->R i v u')
    (hal: ∀i v u,al i=true->R i v u-> ∃b,v= pN (some ⟨b,0,none⟩)/\b<u.heap.size)
    (hS: ∀u,bX w.heap.size w u->S u)
    (hop: ∀i∈pool,∀(o:Oper) (a':Act) (u:wD),ops[i]? =some o->bX w.heap.size w u->a'.tmps.size=a.tmps.size->a'.defers=a.defers->
      (∀j∈pool,needs ops i j=true-> ∀t,an6 ops j=some t->t<a.tmps.size->R j (a'.tmps[t]?.getD undef) u)->
      (∀t,(∀j∈pool,an6 ops j≠some t)->a'.tmps[t]? =a.tmps[t]?)->
      ahO P o a' u fun v u'=>R i v u'/\bX u.heap.size u u'/\(al i=true-> ∃b,v= pN (some ⟨b,0,none⟩)/\u.heap.size<=b))
    (hend: ∀(vs:Nat->vL) (u:wD),bX w.heap.size w u->(∀i∈pool,R i (vs i) u)->(∀i∈pool,∀j∈pool,i≠j->al i=true->al j=true->vs i≠vs j)->
      LaS P ops Q z S n (an5 pool listed) (alB ops vs pool a) u):LaS P ops Q z S (n+pool.length) listed a w:=by
  have H:=aqo hok;have key: ∀(m:Nat) (D:List Nat) (vs:Nat->vL) (u:wD),D.length+m=pool.length->D.Nodup->(∀i∈D,i∈pool)->Shut ops (an5 D listed)->bX w.heap.size w u->(∀i∈D,R i (vs i) u)->
      (∀i∈D,∀j∈D,i≠j->al i=true->al j=true->vs i≠vs j)->LaS P ops Q z S (n+m) (an5 D listed) (alB ops vs D a) u:=by
    intro m
    induction m with
    |zero=>
      intro D vs u hm hnd hsub _ hb hR hA;have hp:D.Perm pool:=(List.perm_ext_iff_of_nodup hnd H.nd).2 fun i=>⟨hsub i,fun hi=>by
        refine Classical.byContradiction fun hiD=> ?_;have:=ap0 (l:=i::D) (m:=pool) (List.nodup_cons.2 ⟨hiD,hnd⟩) fun j hj=>by
          rcases List.mem_cons.1 hj with rfl |hj
          · exact hi
          · exact hsub j hj
        simp only[List.length_cons] at this;omega⟩
      rw[aqk hp,aqj hp fun i hi j hj=>H.dst i (hsub i hi) j (hsub j hj)];exact hend vs u hb (fun i hi=>hR i (hp.mem_iff.2 hi)) fun i hi j hj=>hA i (hp.mem_iff.2 hi) j (hp.mem_iff.2 hj)
    |succ m ih=>
      intro D vs u hm hnd hsub hsh hb hR hA;have hrdy: ∀j,j∈Region.ready .any ops (an5 D listed)->j∈pool/\j∉D:=fun j hj=>by
        obtain⟨hun,o,ho,hall⟩:=mem_ready.1 hj;have hjl:=(aS.1 ho).1;have hjD:j∉D:=fun hjD=>by
          rw[apZ D listed j true hjD (by rw[H.sz];exact hjl)] at hun
          cases hun
        refine⟨Classical.byContradiction fun hjp=> ?_,hjD⟩;rw[apU D listed j true hjD] at hun;have hun2:listed.getD j false=false:=by
          have:j<listed.size:=by rw[H.sz];exact hjl
          simp[this] at hun ⊢; exact hun
        obtain⟨i,hi,hiD⟩: ∃i∈pool,i∉D:=Classical.byContradiction fun hno=>by
          have hs: ∀i∈pool,i∈D:=fun i hi=>Classical.byContradiction fun h=>hno ⟨i,hi,h⟩;have:=ap0 H.nd hs;omega
        have hw:=H.out j hjl hjp hun2 i hi;have:=ajk hsh 8 j i (fun o2 ho2 e he hb2=>by rw[ho] at ho2;cases ho2;exact hall e he hb2) hw;rw[apU D listed i false hiD] at this;have h2:=(H.un i hi).2.1;have hil:=(H.un i hi).1;have:i<listed.size:=by rw[H.sz];exact hil
        simp[this] at *
        simp_all
      have hne:Region.ready .any ops (an5 D listed)≠ []:=fun he=>by
        have hex: ∃k,k<pool.length/\pool.getD k 0∉D:=Classical.byContradiction fun hno=>by
          have hs: ∀i∈pool,i∈D:=fun i hi=>by
            obtain⟨k,hk,rfl⟩:=List.getElem_of_mem hi;refine Classical.byContradiction fun h=>hno ⟨k,hk, ?_⟩;rw[lD,lG hk];exact h
          have:=ap0 H.nd hs;omega
        obtain⟨k,⟨hk,hkD⟩,hmin⟩: ∃k,(k<pool.length/\pool.getD k 0∉D)/\ ∀k',k'<k-> ¬(k'<pool.length/\pool.getD k' 0∉D):=by
          obtain⟨k0,hk0⟩:=hex
          induction k0 using Nat.strongRecOn with
          |_ k0 ih2=>
            by_cases h: ∃k',k'<k0/\k'<pool.length/\pool.getD k' 0∉D
            · obtain⟨k',a1,a2⟩:=h
              exact ih2 k' a1 a2
            · exact⟨k0,hk0,fun k' hk' hh=>h ⟨k',hk',hh⟩⟩
        have hip:pool.getD k 0∈pool:=by rw[lD,lG hk];exact List.getElem_mem hk
        obtain⟨hil,hun,o,ho,_⟩:=H.un _ hip;have:pool.getD k 0∈Region.ready .any ops (an5 D listed):=mem_ready.2 ⟨by rw[apU D listed _ true hkD];exact hun,o,ho,fun e hee hbb=>by
          rcases H.topo k hk e.on (aqn ho hee hbb rfl) with h |h
          · by_cases hD:e.on∈D
            · have:=(aS.1 ho).1
              by_cases hlt:e.on<listed.size
              · exact apZ D listed _ false hD hlt
              · simp[Array.getElem?_eq_none (Nat.le_of_not_lt hlt)] at h
            · rw[apU D listed _ false hD];exact h
          · obtain⟨k',hk',e1⟩:=List.getElem_of_mem h
            simp only[List.length_take,List.getElem_take] at hk' e1;have h3:=hmin k' (by omega);have hkl:k'<pool.length:=by omega
            have:e.on∈D:=Classical.byContradiction fun hn=>h3 ⟨hkl,by rw[lD,lG hkl,Option.getD_some,e1];exact hn⟩;exact apZ D listed _ false this (by rw[H.sz];exact(H.un _ (hsub _ this)).1)⟩
        rw[he] at this
        cases this
      refine⟨hne,fun i hi=> ?_⟩;obtain⟨hip,hiD⟩:=hrdy i hi;obtain⟨hun,o,ho,hall⟩:=mem_ready.1 hi;obtain⟨hil,_,o2,ho2,hg⟩:=H.un i hip;rw[ho] at ho2
      cases ho2
      refine⟨o,ho,.inr ⟨by unfold Region.wanted;rw[hg], ?_⟩⟩;have hsz:(alB ops vs D a).tmps.size=a.tmps.size/\(alB ops vs D a).defers=a.defers:=by
        generalize a=a0;clear hS hop hend hb hR hA ih hi hun hall hrdy hne hsh hsub hnd hm
        induction D generalizing a0 with
        |nil=>exact⟨rfl,rfl⟩
        |cons j D ih=>exact⟨(ih (fun h=>hiD (List.mem_cons_of_mem _ h)) _).1.trans (aqb _ _ _),(ih (fun h=>hiD (List.mem_cons_of_mem _ h)) _).2.trans (by cases hdd:an6 ops j<;>rfl)⟩
      have hE:=hop i hip o (alB ops vs D a) u ho hb hsz.1 hsz.2 (fun j hj hn t ht hts=>by
        have hjD:j∈D:=by
          unfold needs at hn;rw[ho] at hn;simp only[Option.map_some,Option.getD_some,Array.any_eq_true,Bool.and_eq_true,beq_iff_eq] at hn;obtain⟨x,hx,hbx,e1⟩:=hn;have h4:=hall _ (Array.getElem_mem hx) hbx;rw[e1] at h4;refine Classical.byContradiction fun hjD=> ?_;rw[apU D listed j false hjD] at h4;have h5:=(H.un j hj).2.1;have:j<listed.size:=by rw[H.sz];exact(H.un j hj).1
          simp[this] at h4 h5;rw[h4] at h5;cases h5
        rw[aqc ht D a hjD hnd (fun j' hj' hne' he=>H.dst j' (hsub j' hj') j hj hne' t he ht) hts];exact hR j hjD) (fun t ht=>ap5 D a fun j hj=>ht j (hsub j hj))
      refine hE.mono fun v u' ⟨r1,r2,r3⟩=>⟨fun _=>hS u' (hb.trans (r2.mono hb.size)), ?_⟩;have hvs: ∀j∈D,(if j=i then v else vs j)=vs j:=fun j hj=>if_neg (fun e:j=i=>hiD (e▸hj));have hvi:(if i=i then v else vs i)=v:=if_pos rfl;have e1:(alB ops vs D a).put o.dst v=alB ops (fun k=>if k=i then v else vs k) (D++ [i]) a:=by
        rw[ap9,<-aqa D a fun j hj=>(hvs j hj).symm]
        show _=(alB ops vs D a).put _ (if i=i then v else vs i)
        rw[hvi];unfold an6;rw[ho];rfl
      rw[e1,<-ap4];refine ih (D++ [i]) _ u' (by simp;omega) (List.nodup_append.2 ⟨hnd,by simp,fun x hx y hy=>by rw[List.mem_singleton] at hy;exact fun e=>hiD (hy▸e▸hx)⟩) (fun j hj=> ?_) ?_ (hb.trans (r2.mono hb.size)) (fun j hj=> ?_) (fun j hj k hk hjk a1 a2=> ?_)
      · rcases List.mem_append.1 hj with hj |hj
        · exact hsub j hj
        · rw[List.mem_singleton] at hj;rw[hj];exact hip
      · rw[ap4]
        exact ajn hsh fun o3 ho3 e he hb3=>by rw[ho] at ho3;cases ho3;exact hall e he hb3
      · show R j (if j=i then v else vs j) u'
        rcases List.mem_append.1 hj with hj |hj
        · rw[hvs j hj];exact hstab j _ u u' (hR j hj) r2
        · rw[List.mem_singleton] at hj;rw[hj,hvi];exact r1
      · show (if j=i then v else vs j)≠(if k=i then v else vs k)
        have apart: ∀j∈D,al j=true->al i=true->vs j≠v:=fun j hj a1 a2=>by
          obtain⟨b,e2,hlt⟩:=hal j _ u a1 (hR j hj);obtain⟨b',e3,hle⟩:=r3 a2;rw[e2,e3];intro e4
          cases e4
          omega
        rcases List.mem_append.1 hj with hj |hj<;>rcases List.mem_append.1 hk with hk |hk
        · rw[hvs j hj,hvs k hk];exact hA j hj k hk hjk a1 a2
        · rw[List.mem_singleton] at hk
          rw[hk] at a2 ⊢;rw[hvs j hj,hvi];exact apart j hj a1 a2
        · rw[List.mem_singleton] at hj
          rw[hj] at a1 ⊢;rw[hvs k hk,hvi];exact Ne.symm (apart k hk a2 a1)
        · rw[List.mem_singleton] at hj hk
          exact absurd (hj.trans hk.symm) hjk
  exact key pool.length [] (fun _=>undef) w (by simp) List.nodup_nil (fun i hi=>by cases hi) H.shut (bR _ _) (fun i hi=>by cases hi) (fun i hi=>by cases hi)
theorem aqr {id:Nat} {a:Act} {w:wD} (z n:Nat) (hm:P.follows .mixedOrders=true) (h:LaS P ops Q z (fun u=>w.drew=u) n (Array.replicate n false) a w.drew) (hn:ops.size=n:=by rfl):(Code.region id ops true).wp P Q a w:=aif z n _ hm h hn
theorem an8 (i:Nat) {o:Oper} (v:vL) {n:Nat} {listed:Array Bool} {a:Act} {w0:wD} (h:LaS P ops Q z (fun u=>w0=u) n (listed.setIfInBounds i true) (a.put o.dst v) w0) (ho:ops[i]? =some o:=by rfl) (hw:Region.wanted o (yielded ops a.tmps)=true:=by rfl) (hr:(execOp a.eval o).run P w0= .ok (.value v) w0:=by go_simp)
  (hs:Region.noSelect ops=true:=by kernel_rfl) (hf:Region.free .any ops listed i=true:=by kernel_rfl) (hc:(Region.ready .any ops listed).contains i=true:=by kernel_rfl) (hsh:alz ops listed=true:=by kernel_rfl) (hz:ops.size<=z\/ ∃f,aji ops f z i=true:=by first | (refine .inl ?_;decide) | (refine .inr ⟨1, ?_⟩;decide+kernel) | (refine .inr ⟨2, ?_⟩;decide+kernel) | (refine .inr ⟨3, ?_⟩;decide+kernel) | (refine .inr ⟨6, ?_⟩;decide+kernel)) (hz2:ops.size<=z+1\/ ∃f,aji ops f (z+1) i=true:=by first | (refine .inl ?_;decide) | (refine .inr ⟨1, ?_⟩;decide+kernel) | (refine .inr ⟨2, ?_⟩;decide+kernel) | (refine .inr ⟨3, ?_⟩;decide+kernel) | (refine .inr ⟨6, ?_⟩;decide+kernel)):LaS P ops Q z (fun u=>w0=u) (n+1) listed a w0:=
 ahN i v rfl h ho hw (fun u hu=>by subst hu;exact hr) hs hf hc hsh hz hz2
end
end Go.Proofs.YtfiiffnbggnkfaaDoor
namespace Go.Proofs.YtfiiffnbggnkfaaDoor
open Go.RowKit Go.Rent Go.Tp Go.Conc
theorem c30 (V:BkV) (B:Bk) (w:wD) (hs:iw w V B):cF tP 11 #[V.val B] w fun e w'=>e= rT (.bool (oO B))/\bX w.heap.size w w':=by
 obtain⟨ta,la,pa,tc,lc,pc⟩:=V;have hb0:bX w.heap.size w (w.alloc (cL #[iN qi B.hours,sL ta B.towns.length tc,sL la B.links.length lc,sL pa B.pairs.length pc] 26)):=(bR _ _).alloc (nR _) _;have HC:=lH (c14 ⟨ta,la,pa,tc,lc,pc⟩ B _ (hs.below hb0 (nR _)));have HD:Hid (dP B=false-> ∀W,bX w.heap.size w W->cF tP 33 #[BkV.val ⟨ta,la,pa,tc,lc,pc⟩ B] W fun e w'=>e= rT (iN qi B.alarm)/\bX W.heap.size W w'):=lH fun hg W hW=>by
  obtain⟨h1,h2⟩:=hs.in hg;exact c20 _ B W (h1.below hW (nR _)) fun t ht=>Nat.le_trans (h2 t ht) (by decide)
 have HF:Hid (oO B=(!dP B&&decide (B.alarm=0))):=lH rfl;have HB0:=lH hb0;clear hs hb0
 cases hg:dP B with
 |true=>
  rw[hg] at HF HC;go_enter Tryd.func11,Tryd.ntmps11
  go_wp2_with fail
  refine HC.out.mono ?_;rintro e w1 ⟨rfl,hb1⟩;go_wp2;go_ret;exact⟨by rw[HF.out]<;>rfl,HB0.out.trans (hb1.mono (by simp))⟩
 |false=>
  rw[hg] at HF HC;have HD2:=lH (HD.out hg);generalize B.alarm=al at *;go_enter Tryd.func11,Tryd.ntmps11
  go_wp2_with fail
  refine HC.out.mono ?_;rintro e w1 ⟨rfl,hb1⟩;have Hb1:=lH (HB0.out.trans (hb1.mono (by simp)));have k0:w1.cell? ⟨w.heap.size,0,none⟩=some (iN qi B.hours):=by rw[(ak hb1).1 _ _ (by simp)];go_simp
  have k1:w1.cell? ⟨w.heap.size,1,none⟩=some (sL ta B.towns.length tc):=by rw[(ak hb1).1 _ _ (by simp)];go_simp
  have k2:w1.cell? ⟨w.heap.size,2,none⟩=some (sL la B.links.length lc):=by rw[(ak hb1).1 _ _ (by simp)];go_simp
  have k3:w1.cell? ⟨w.heap.size,3,none⟩=some (sL pa B.pairs.length pc):=by rw[(ak hb1).1 _ _ (by simp)];go_simp
  clear hb1
  go_wp2_with fail
  refine(HD2.out w1 Hb1.out).mono ?_;rintro e w2 ⟨rfl,hb2⟩;go_wp2;go_ret;refine⟨?_,Hb1.out.trans (hb2.mono Hb1.out.size)⟩;rw[HF.out];by_cases h:al=0
  ·subst h;rfl
  ·simp[h]
end Go.Proofs.YtfiiffnbggnkfaaDoor
