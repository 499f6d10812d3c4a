/- A part of the proof of a law; no conditions of its own. -/
import Derived.Test.YtfiiffnbggnkfaaDoorAv01
import Derived.DeepKeys4
import Derived.Maps.OwnOps
import Derived.Maps.OwnSet
open Go renaming Addr→aD, Value→vL, World→wD
open Go.RowKit renaming Below→bX
open Go.IntKind renaming i64→qi
open Go.Value renaming int→iN, slice→sL
set_option maxRecDepth 100000
open Nat renaming le_refl→nR
open Go.Lib renaming hid→lH
open Go.RowKit.Below renaming refl→bR
open Go.Proofs.Tryd renaming prog→tP
open List renaming getElem?_eq_getElem→lG
open List renaming getElem?_eq_some_iff→lS
open Nat renaming lt_of_lt_of_le→nL
set_option maxHeartbeats 4000000
namespace Go.Proofs.YtfiiffnbggnkfaaDoor
open Go.RowKit Go.Rent Go.Maps
theorem Gv:(132 :TypeId)<tP.types.size:=of_decide_eq_true (by kernel_rfl)
theorem vN:Keyed tP 132:=Keyed.of_law (deep_law_laid (by kernel_rfl) (m:=2) (by omega) Gv (by kernel_rfl) (by rw[Tryd.underlying132]))
theorem Pg:tP.keyType 132=true:=by kernel_rfl
theorem Pj:tP.cellsOf 132=2:=by kernel_rfl
theorem co3:tP.cellsOf 3=1:=by kernel_rfl
abbrev jq (a b:Int):vL:= .agg #[iN qi a,iN qi b]
def bD (a:Int):Prop:= -9223372036854775808<=a/\a<=9223372036854775807
theorem wf_i64 {a:Int} (h:bD a):(Lit.int qi a).wf=true:=by
 obtain⟨h1,h2⟩:=h;simp[Lit.wf,IntKind.min,IntKind.max,IntKind.bits,IntKind.signed];omega
theorem Gw {P:Program} {k:TypeId} {f0 f1:Field} (h:P.underlying k=some (.struct #[f0,f1])) (h3:P.underlying 3=some (.int qi)) (t0:f0.type=3) (t1:f1.type=3) (o0:f0.offset=0) (o1:f1.offset=1) (n0:(f0.name != "_")=true) (n1:(f1.name != "_")=true)
  (kt:P.keyType k=true) (ck:P.cellsOf k=2) (c3:P.cellsOf 3=1) (hsz:0<P.types.size) {a b:Int} (ha:bD a) (hb:bD b):keyOf P k (jq a b)=some (.string (keyBytes [.int qi a,.int qi b])):=by
 have ha':=wf_i64 ha;have hb':=wf_i64 hb;obtain⟨m,hm⟩: ∃m,P.types.size=m+1:=⟨P.types.size-1,by omega⟩;unfold keyOf;rw[h];simp only;rw[if_pos (by simp[kt,Value.formed,h,ck]),hm];unfold Program.keyLits;rw[h];simp only[bne_iff_ne] at n0 n1;simp[ck,c3,Value.cells,Program.keyLits,h3,ha',hb',t0,t1,o0,o1,n0,n1]
theorem pR {a b:Int} (ha:bD a) (hb:bD b):keyOf tP 132 (jq a b)=some (.string (keyBytes [.int qi a,.int qi b])):=
 Gw Tryd.underlying132 Tryd.underlying3 rfl rfl rfl rfl (by decide) (by decide) Pg Pj co3 (Nat.lt_of_le_of_lt (Nat.zero_le _) Gv) ha hb
def bZ (S:List (Int×Int)) (a b:Int):Bool:=S.any fun x=>x.1==a&&x.2==b
theorem Ce (S:List (Int×Int)) (p q a b:Int):bZ ((p,q)::S) a b=((p==a&&q==b)||bZ S a b):=rfl
theorem Pm {H:Type} {P:Program} {e:TypeId} (he:P.underlying e=some .bool) {v:vL} {z:DataW H×List MemPlace} (h:plainElem P e v=some z): ∃a,v= .bool a/\z=(.lit (.bool a),[]):=by
 unfold plainElem at h;rw[he] at h
 cases v<;>simp at h
 exact⟨_,rfl,h.symm⟩
noncomputable abbrev Pn:vL->Option (DataW Unit×List MemPlace):=plainElem tP 4
def dM (w:wD) (b n:Nat) (S:List (Int×Int)):Prop:=
 ∃D:DataW Unit,w.ownsMap tP 132 Pn b n D/\ ∀(x y:Int) (kl:Lit),keyOf tP 132 (jq x y)=some kl->D.atKey kl (.lit (.bool false))= .lit (.bool (bZ S x y))
theorem dM.made (w:wD):dM (w.alloc (.map #[] 0)) w.heap.size 0 []:=⟨.map [],World.ownsMap_made w _ _ _,fun _ _ _ _=>rfl⟩
theorem dM.kept {w w':wD} {b n:Nat} {S:List (Int×Int)} (h:dM w b n S) {row:Option Nat} (hg:w.grownBy w' row) (hne:some b≠row):dM w' b n S:=by
 obtain⟨D,h1,h2⟩:=h;exact⟨D,h1.kept hg hne,h2⟩
theorem dM.below {w w':wD} {b n m:Nat} {S:List (Int×Int)} (h:dM w b n S) (hb:bX m w w') (hm:b<m):dM w' b n S:=by
 obtain⟨D,⟨es,cl,h1,h3⟩,h2⟩:=h;exact⟨D,⟨es,cl,by rw[hb.block b hm];exact h1,h3⟩,h2⟩
theorem dM.lt {w:wD} {b n:Nat} {S:List (Int×Int)} (h:dM w b n S):b<w.heap.size:=by obtain⟨D,h1,_⟩:=h;exact h1.lt
theorem Po (w:wD):(zeroValue 4).run tP w= .ok (.bool false) w:=by kernel_rfl
theorem dM.lookup {w:wD} {b n:Nat} {S:List (Int×Int)} (h:dM w b n S) {x y:Int} (hx:bD x) (hy:bD y):(Instr.lookup 173 (.map (some b)) (jq x y) false).run tP w= .ok (.bool (bZ S x y)) w:=by
 obtain⟨D,h1,h2⟩:=h;obtain⟨v,ps,hrun,hv⟩:=h1.lookup vN Tryd.underlying173 (Po w) (plainElem_bool Tryd.underlying4 false) (pR hx hy);rw[h2 x y _ (pR hx hy)] at hv;have:v= .bool (bZ S x y):=by
  obtain⟨a,rfl,h3⟩:=Pm Tryd.underlying4 hv;simp only[Prod.mk.injEq,DataW.lit.injEq,Lit.bool.injEq] at h3;rw[h3.1]
 rw[this] at hrun;exact hrun
theorem dM.update {w:wD} {b n:Nat} {S:List (Int×Int)} (h:dM w b n S) (hn:n<maxLen) {x y:Int} (hx:bD x) (hy:bD y):
  ∃w',(Instr.mapUpdate 173 (.map (some b)) (jq x y) (.bool true)).run tP w= .ok () w'/\dM w' b (n+1) ((x,y)::S)/\w.grownBy w' (some b):=by
 obtain⟨D,h1,h2⟩:=h;obtain⟨w',hrun,hown,hg⟩:=h1.update vN Tryd.underlying173 hn (pR hx hy) (plainElem_bool Tryd.underlying4 true);refine⟨w',hrun,⟨_,hown,fun p q kl hkl=> ?_⟩,hg⟩;rw[Ce];by_cases e:(x==p&&y==q)=true
 ·have e':x=p/\y=q:=by simpa using e
  obtain⟨rfl,rfl⟩:=e';rw[pR hx hy] at hkl
  cases hkl
  rw[atKey_put_same h1.isMap (vN.key (pR hx hy))];simp
 ·rw[atKey_put_other (fun e2=>e (by
   subst e2;have:=vN.inj (pR hx hy) hkl;simp only[Value.agg.injEq,Array.mk.injEq,List.cons.injEq,Value.int.injEq,true_and,and_true] at this;simp[this])),h2 p q kl hkl]
  simp[e]
theorem gW {S:List (Int×Int)} {w:wD} {ops:Array Oper} {rest:List Oper} {o:Oper} {a:Act} {Q:Exit->Act->wD->Prop}
  (hg:o.guard=none) (m x:Operand) (hop:o.op=Op.lookup 173 m x false) (b n:Nat) (hm:a.eval m= .map (some b)) (p q:Int) (hx:a.eval x=jq p q) (hown:dM w b n S) (hp:bD p) (hq:bD q)
  (hK:wpList tP ops Q rest (a.put o.dst (.bool (bZ S p q))) w):wpList tP ops Q (o::rest) a w:=by
 refine wpList_plain hg fun K' hK'=> ?_;have hrun:=hown.lookup hp hq;unfold Oper.wp;simp[execOp,hop,hm,hx,hrun,Result.andThen];exact hK' _ _ hK
theorem gX {S:List (Int×Int)} {w:wD} {ops:Array Oper} {rest:List Oper} {o:Oper} {a:Act} {Q:Exit->Act->wD->Prop}
  (hg:o.guard=none) (m x v:Operand) (hop:o.op=Op.mapUpdate 173 m x v) (b n:Nat) (hm:a.eval m= .map (some b)) (p q:Int) (hx:a.eval x=jq p q) (hv:a.eval v= .bool true) (hown:dM w b n S) (hn:n<maxLen) (hp:bD p) (hq:bD q)
  (hK: ∀w',dM w' b (n+1) ((p,q)::S)->w.grownBy w' (some b)->wpList tP ops Q rest (a.put o.dst undef) w'):wpList tP ops Q (o::rest) a w:=by
 refine wpList_plain hg fun K' hK'=> ?_;obtain⟨w',hrun,h1,h2⟩:=hown.update hn hp hq;unfold Oper.wp;simp[execOp,hop,hm,hx,hv,hrun,Result.andThen];exact hK' _ _ (hK w' h1 h2)
end Go.Proofs.YtfiiffnbggnkfaaDoor
namespace Go.Proofs.YtfiiffnbggnkfaaDoor
open Go.RowKit Go.Rent
def aX (l:List (Int×Int)):Nat->List (Int×Int)
 | 0=> []
 |k+1=>match l[k]? with
  |some p=>p::aX l k
  |none=>aX l k
theorem pU {l:List (Int×Int)} {k:Nat} {p:Int×Int} (h:l[k]? =some p):aX l (k+1)=p::aX l k:=by
 show (match l[k]? with |some p=>p::aX l k |none=>aX l k)=_
 rw[h]
def dD (nt:Int) (i:Nat) (a b:Int):Prop:=((i:Int)<nt-1/\ ¬(a=0/\b=(i:Int)+1))\/(nt-1<=(i:Int)/\(a=0\/b<=a))
instance (nt:Int) (i:Nat) (a b:Int):Decidable (dD nt i a b):=by unfold dD;infer_instance
def fO (nt:Int) (i:Nat) (S:List (Int×Int)):List Lnk->Int
 | []=>0
 |x::l=>if btw x.one 0 (nt-1)=false\/btw x.two 0 (nt-1)=false then 6 else if dD nt i x.one x.two then 7 else if bZ S x.one x.two then 5 else
  if bJ x.steps=0 then fO nt (i+1) ((x.one,x.two)::S) l else bJ x.steps
def dH (x:Lnk):Int×Int:=(x.one,x.two)
def dA (nt:Int) (ls:List Lnk):Int:=if btw ls.length (nt-1) 6 then fO nt 0 [] ls else 2
theorem Gx {nt:Int} {ls:List Lnk} {k:Nat} {x:Lnk} (h:ls[k]? =some x):fO nt k (aX (ls.map dH) k) (ls.drop k)=
  if btw x.one 0 (nt-1)=false\/btw x.two 0 (nt-1)=false then 6 else if dD nt k x.one x.two then 7 else if bZ (aX (ls.map dH) k) x.one x.two then 5 else
  if bJ x.steps=0 then fO nt (k+1) (aX (ls.map dH) (k+1)) (ls.drop (k+1)) else bJ x.steps:=by
 rw[pU (p:=(x.one,x.two)) (by rw[List.getElem?_map,h];rfl)];obtain⟨hl,rfl⟩:=lS.1 h
 conv=>lhs;rw[List.drop_eq_getElem_cons hl];unfold fO
theorem Gy {nt:Int} {ls:List Lnk} {k:Nat} {S:List (Int×Int)} (h:ls.length<=k):fO nt k S (ls.drop k)=0:=by rw[List.drop_of_length_le h];rfl
def jr (w:wD) (la:Option aD) (ls:List Lnk):Prop:= ∀(i:Nat) (L:Lnk),ls[i]? =some L-> ∃b o sa sc,la=some ⟨b,o,none⟩/\w.cell? ⟨b,o+i*3,none⟩=some (iN qi L.one)/\w.cell? ⟨b,o+i*3+1,none⟩=some (iN qi L.two)/\w.cell? ⟨b,o+i*3+2,none⟩=some (sL sa L.steps.length sc)/\SlB w sa L.steps/\L.steps.length<=1000000
theorem jr.below {n:Nat} {w w':wD} {la:Option aD} {ls:List Lnk} (h:jr w la ls) (hb:bX n w w') (hn:w.heap.size<=n):jr w' la ls:=fun i L hi=>by
 obtain⟨b,o,sa,sc,h1,h2,h3,h4,h5,h6⟩:=h i L hi;exact⟨b,o,sa,sc,h1,aoF hb h2 hn,aoF hb h3 hn,aoF hb h4 hn,h5.below hb hn,h6⟩
theorem ng {b:Bool} (h:b=false): ¬b=true:=by rw[h];decide
def gI (w:wD) (n:Nat) (h:Int) (t l p:vL):Prop:=n<w.heap.size/\w.cell? ⟨n,0,none⟩=some (iN qi h)/\w.cell? ⟨n,1,none⟩=some t/\w.cell? ⟨n,2,none⟩=some l/\w.cell? ⟨n,3,none⟩=some p
theorem gI.below {m n:Nat} {w w':wD} {h:Int} {t l p:vL} (b:gI w n h t l p) (hb:bX m w w') (hm:n<m):gI w' n h t l p:=
 ⟨nL b.1 hb.size,by rw[(ak hb).1 _ _ hm];exact b.2.1,by rw[(ak hb).1 _ _ hm];exact b.2.2.1,by rw[(ak hb).1 _ _ hm];exact b.2.2.2.1,by rw[(ak hb).1 _ _ hm];exact b.2.2.2.2⟩
structure LkR (w:wD) (n5 n6 bm k:Nat) (S:List (Int×Int)) (h:Int) (t l p:vL) (x0 x1:Int) (x2:vL) (sa:Option aD) (st:List (Int×Int)) (wn:wD):Prop where
 below:bX w.heap.size w wn
 box:gI wn w.heap.size h t l p
 z5:n5<wn.heap.size
 z6:n6<wn.heap.size
 c0:wn.cell? ⟨n5,0,none⟩=some (iN qi x0)
 c1:wn.cell? ⟨n5,1,none⟩=some (iN qi x1)
 c2:wn.cell? ⟨n5,2,none⟩=some x2
 d0:wn.cell? ⟨n6,0,none⟩=some (iN qi x0)
 d1:wn.cell? ⟨n6,1,none⟩=some (iN qi x1)
 set:dM wn bm k S
 sl:SlB wn sa st
theorem LkR.step {w:wD} {n5 n6 bm k:Nat} {S:List (Int×Int)} {h:Int} {t l p:vL} {x0 x1:Int} {x2:vL} {sa:Option aD} {st:List (Int×Int)} {wn wm:wD} (r:LkR w n5 n6 bm k S h t l p x0 x1 x2 sa st wn) (hb:bX wn.heap.size wn wm):LkR w n5 n6 bm k S h t l p x0 x1 x2 sa st wm:=
 ⟨r.below.trans (hb.mono r.below.size),r.box.below hb r.box.1,nL r.z5 hb.size,nL r.z6 hb.size,by rw[(ak hb).1 _ _ r.z5];exact r.c0,by rw[(ak hb).1 _ _ r.z5];exact r.c1,by rw[(ak hb).1 _ _ r.z5];exact r.c2,
  by rw[(ak hb).1 _ _ r.z6];exact r.d0,by rw[(ak hb).1 _ _ r.z6];exact r.d1,r.set.below hb r.set.lt,r.sl.below hb (nR _)⟩
theorem LkR.after {w:wD} {n5 n6 bm k:Nat} {S:List (Int×Int)} {h:Int} {t l p:vL} {x0 x1:Int} {x2:vL} {sa:Option aD} {st:List (Int×Int)} {wn wm:wD} (r:LkR w n5 n6 bm k S h t l p x0 x1 x2 sa st wn) (hg:wn.grownBy wm (some bm)) (hm:w.heap.size<bm):bX w.heap.size w wm/\gI wm w.heap.size h t l p:=by
 have hne:some w.heap.size≠some bm:=by simp;omega
 have hc: ∀o,wm.cell? ⟨w.heap.size,o,none⟩=wn.cell? ⟨w.heap.size,o,none⟩:=fun o=>World.cell?_of_block (w:=wn) (hg.block _ r.box.1 hne);refine⟨r.below.grown hg r.below.size (fun q hq=>by cases hq;omega),nL r.box.1 hg.size, ?_, ?_, ?_, ?_⟩
 ·rw[hc];exact r.box.2.1
 ·rw[hc];exact r.box.2.2.1
 ·rw[hc];exact r.box.2.2.2.1
 ·rw[hc];exact r.box.2.2.2.2
theorem c148 (h:Int) (ta:Option aD) (nt tc:Nat) (la:Option aD) (ls:List Lnk) (lc:Nat) (pa:Option aD) (pn pc:Nat) (w:wD) (hs:jr w la ls) (hl:ls.length<=1000000) (hnt:nt<=1000000):
    Calls tP 120 #[.agg #[iN qi h,sL ta nt tc,sL la ls.length lc,sL pa pn pc]] w fun e w'=>e= .returned (iN qi (dA nt ls))/\bX w.heap.size w w':=by
  have Hs:=lH hs;clear hs;have hntm:nt<=maxLen:=by unfold maxLen;omega
  have hmm:= @run_makeMap tP;go_enter Tryd.func120,Tryd.ntmps120
  go_wp2_with fail
  generalize hbt:btw (ls.length:Int) ((nt:Int)-1) 6=bt
  go_region_held3 (fun w'=>w'.cell? ⟨w.heap.size,0,none⟩=some (iN qi h)/\w'.cell? ⟨w.heap.size,1,none⟩=some (sL ta nt tc)/\w'.cell? ⟨w.heap.size,2,none⟩=some (sL la ls.length lc)/\w'.cell? ⟨w.heap.size,3,none⟩=some (sL pa pn pc))
    (first
      |go_keep
      | (go_split_ands
         obtain⟨hc,hf⟩:=ak hbel;refine⟨?_, ?_, ?_, ?_⟩<;>(rw[hc _ _ (by simp)];assumption)))
    (first | (go_simp;go_at_call 44;refine(c88 _ _ _ _ _ _ _ hntm).mono ?_;rintro e w1 ⟨rfl,hbel⟩) | (go_simp;go_at_call 48;refine(c69 _ _ _ _).mono ?_;rintro e w' ⟨rfl,rfl⟩))
  rename_i hHeld;have hB1:gI w1 w.heap.size h (sL ta nt tc) (sL la ls.length lc) (sL pa pn pc):=⟨by have:=hbel.size;simp at this;omega,hHeld⟩;have hbw:bX w.heap.size w w1:=((bR _ _).alloc (nR _) _).drew.trans (hbel.mono (by simp));clear hbel hHeld
  cases bt with
  |false=>
    have HH:=lH (show dA (nt:Int) ls=2 by unfold dA;rw[hbt];rfl);clear hbt;go_wp2;go_ret;exact⟨by rw[HH.out];rfl,hbw⟩
  |true=>
    have HH:=lH (show dA (nt:Int) ls=fO nt 0 [] ls by unfold dA;rw[hbt];rfl);clear hbt;obtain⟨hz1,hx0,hx1,hx2,hx3⟩:=hB1;simp only[Bool.not_true]
    go_wp2_with fail
    have hset:=dM.made w1;have hbm:w.heap.size<w1.heap.size:=hz1;have hbw2:=hbw.trans (((bR _ _).alloc (nR _) (.map #[] 0)).mono hbw.size);have hB2:gI (w1.alloc (.map #[] 0)) w.heap.size h (sL ta nt tc) (sL la ls.length lc) (sL pa pn pc):=gI.below ⟨hz1,hx0,hx1,hx2,hx3⟩ ((bR _ _).alloc (nR _) _) hz1;generalize w1.alloc (.map #[] 0)=w2 at *;generalize w1.heap.size=bm at *;clear hx0 hx1 hx2 hx3 hbw
    go_loopw [21] (fun i wr=> ∃k:Nat,k<=ls.length/\i= iN qi (k:Int)/\fO nt 0 [] ls=fO nt k (aX (ls.map dH) k) (ls.drop k)/\bX w.heap.size w wr/\gI wr w.heap.size h (sL ta nt tc) (sL la ls.length lc) (sL pa pn pc)/\dM wr bm k (aX (ls.map dH) k)) (fun i _=>ls.length-(intOf i).toNat)
    case atStart=>exact⟨0,Nat.zero_le _,rfl,rfl,hbw2,hB2,hset⟩
    case round=>
      obtain⟨k,hk,rfl,hfk,hb,hB,hS⟩:=hrel;have Hfk:=lH hfk;have HB:=lH hB;have HS:=lH hS;clear hfk hB hS hB2 hset hbw2;by_cases hlt:k<ls.length
      · have hx:ls[k]? =some ls[k]:=lG hlt
        obtain⟨b,o,sa,sc,rfl,g0,g1,g2,g3,g4⟩:=(Hs.out.below hb (nR _)) k _ hx;have hat:=Gx (nt:=nt) hx;have hpx:(ls.map dH)[k]? =some ((ls[k]).one,(ls[k]).two):=by rw[List.getElem?_map,hx];rfl
        generalize (ls[k]).one=x0 at *;generalize (ls[k]).two=x1 at *;generalize (ls[k]).steps=st at *;have Hpx:=lH hpx;have G3:=lH g3;have Hat:=lH hat;clear hx hpx g3 hat;obtain⟨q0,q1,q2,q3,q4⟩:=HB.out;have R:Hid (LkR w wr.heap.size (wr.heap.size+1) bm k (aX (ls.map dH) k) h (sL ta nt tc) (sL (some ⟨b,o,none⟩) ls.length lc) (sL pa pn pc) x0 x1 (sL sa st.length sc) sa st ((wr.alloc (.cells #[iN qi x0,iN qi x1,sL sa st.length sc] 79)).alloc (.cells #[iN qi x0,iN qi x1] 132))):=
          lH ⟨hb.trans (((bR _ _).alloc (nR _) _).alloc (by simp) _ |>.mono hb.size),HB.out.below (((bR _ _).alloc (nR _) _).alloc (by simp) _) q0,by simp;omega,by simp,by go_simp,by go_simp,by go_simp,by go_simp,by go_simp,HS.out.below (((bR _ _).alloc (nR _) _).alloc (by simp) _) HS.out.lt,G3.out.below (((bR _ _).alloc (nR _) _).alloc (by simp) _) (nR _)⟩
        cases hb1:btw x0 0 ((nt:Int)-1) with
        |false=>
          have HH2:=lH ((Hat.out).trans (if_pos (.inl hb1)))
          go_wp2_with (first | (go_at_call 124;refine(c152 _ _ _ _ _ _ _ _ hntm).mono ?_;rintro e wn ⟨rfl,hbn⟩;have R:=lH (R.out.step hbn);obtain⟨_,⟨q0,q1,q2,q3,q4⟩,q5,q6,q7,q8,q9,q10,q11,_,_⟩:=R.out;clear hbn) | (go_at_call 44;refine(c88 _ _ _ _ _ _ _ hntm).mono ?_;rintro e wn ⟨rfl,hbn⟩;have R:=lH (R.out.step hbn);obtain⟨_,⟨q0,q1,q2,q3,q4⟩,q5,q6,q7,q8,q9,q10,q11,_,_⟩:=R.out;clear hbn))
          go_ret;exact⟨by rw[HH.out,Hfk.out,HH2.out];rfl,R.out.below⟩
        |true=>
          cases hb2:btw x1 0 ((nt:Int)-1) with
          |false=>
            have HH2:=lH ((Hat.out).trans (if_pos (.inr hb2)))
            go_wp2_with (first | (go_at_call 124;refine(c152 _ _ _ _ _ _ _ _ hntm).mono ?_;rintro e wn ⟨rfl,hbn⟩;have R:=lH (R.out.step hbn);obtain⟨_,⟨q0,q1,q2,q3,q4⟩,q5,q6,q7,q8,q9,q10,q11,_,_⟩:=R.out;clear hbn) | (go_at_call 44;refine(c88 _ _ _ _ _ _ _ hntm).mono ?_;rintro e wn ⟨rfl,hbn⟩;have R:=lH (R.out.step hbn);obtain⟨_,⟨q0,q1,q2,q3,q4⟩,q5,q6,q7,q8,q9,q10,q11,_,_⟩:=R.out;clear hbn))
            go_ret;exact⟨by rw[HH.out,Hfk.out,HH2.out];rfl,R.out.below⟩
          |true=>
            have Hb12:=lH (show _/\_ from⟨hb1,hb2⟩);obtain⟨hx00,hx01⟩:=fK hb1;obtain⟨hx10,hx11⟩:=fK hb2;have hi0:bD x0:=⟨by omega,by omega⟩;have hi1:bD x1:=⟨by omega,by omega⟩;by_cases hkn:(k:Int)<(nt:Int)-1
            · by_cases hx0:x0=0
              · subst hx0
                by_cases hx1:x1=(k:Int)+1
                · subst hx1
                  cases hme:bZ (aX (ls.map dH) k) 0 ((k:Int)+1) with
                  |true=>
                    have HH2:=lH ((Hat.out).trans ((if_neg (by rw[Hb12.out.1,Hb12.out.2];decide)).trans ((if_neg (by unfold dD;omega)).trans (if_pos hme))))
                    go_wp2_with (first | (go_at_call 124;refine(c152 _ _ _ _ _ _ _ _ hntm).mono ?_;rintro e wn ⟨rfl,hbn⟩;have R:=lH (R.out.step hbn);obtain⟨_,⟨q0,q1,q2,q3,q4⟩,q5,q6,q7,q8,q9,q10,q11,_,_⟩:=R.out;clear hbn) | (go_at_call 44;refine(c88 _ _ _ _ _ _ _ hntm).mono ?_;rintro e wn ⟨rfl,hbn⟩;have R:=lH (R.out.step hbn);obtain⟨_,⟨q0,q1,q2,q3,q4⟩,q5,q6,q7,q8,q9,q10,q11,_,_⟩:=R.out;clear hbn) | (at_lookup;refine gW rfl _ _ rfl bm k rfl _ _ rfl R.out.set hi0 hi1 ?_) | (go_at_call 125;refine(kG st sa _ sc _ rfl R.out.sl g4).mono ?_;rintro e wn ⟨rfl,hbn⟩;have R:=lH (R.out.step hbn);obtain⟨_,⟨q0,q1,q2,q3,q4⟩,q5,q6,q7,q8,q9,q10,q11,_,_⟩:=R.out;clear hbn) | (at_mapUpdate;refine gX rfl _ _ _ rfl bm k rfl _ _ rfl rfl R.out.set (by unfold maxLen;omega) hi0 hi1 ?_;intro wm hset hgrow;have HA:=lH (R.out.after hgrow hbm);have HT:=lH hset;clear hset hgrow))
                    go_ret;exact⟨by rw[HH.out,Hfk.out,HH2.out];rfl,R.out.below⟩
                  |false=>
                    have Hme:=lH hme;by_cases hst:bJ st=0
                    · have HH2:=lH ((Hat.out).trans ((if_neg (by rw[Hb12.out.1,Hb12.out.2];decide)).trans ((if_neg (by unfold dD;omega)).trans ((if_neg (ng Hme.out)).trans (if_pos hst)))))
                      go_wp2_with (first | (go_at_call 124;refine(c152 _ _ _ _ _ _ _ _ hntm).mono ?_;rintro e wn ⟨rfl,hbn⟩;have R:=lH (R.out.step hbn);obtain⟨_,⟨q0,q1,q2,q3,q4⟩,q5,q6,q7,q8,q9,q10,q11,_,_⟩:=R.out;clear hbn) | (go_at_call 44;refine(c88 _ _ _ _ _ _ _ hntm).mono ?_;rintro e wn ⟨rfl,hbn⟩;have R:=lH (R.out.step hbn);obtain⟨_,⟨q0,q1,q2,q3,q4⟩,q5,q6,q7,q8,q9,q10,q11,_,_⟩:=R.out;clear hbn) | (at_lookup;refine gW rfl _ _ rfl bm k rfl _ _ rfl R.out.set hi0 hi1 ?_) | (go_at_call 125;refine(kG st sa _ sc _ rfl R.out.sl g4).mono ?_;rintro e wn ⟨rfl,hbn⟩;have R:=lH (R.out.step hbn);obtain⟨_,⟨q0,q1,q2,q3,q4⟩,q5,q6,q7,q8,q9,q10,q11,_,_⟩:=R.out;clear hbn) | (at_mapUpdate;refine gX rfl _ _ _ rfl bm k rfl _ _ rfl rfl R.out.set (by unfold maxLen;omega) hi0 hi1 ?_;intro wm hset hgrow;have HA:=lH (R.out.after hgrow hbm);have HT:=lH hset;clear hset hgrow))
                      go_roundw
                      case rel=>exact⟨k+1,by omega,by go_num,by rw[Hfk.out,HH2.out],HA.out.1,HA.out.2,by rw[pU Hpx.out];exact HT.out⟩
                      case measure=>simp[intOf];omega
                    · have HH2:=lH ((Hat.out).trans ((if_neg (by rw[Hb12.out.1,Hb12.out.2];decide)).trans ((if_neg (by unfold dD;omega)).trans ((if_neg (ng Hme.out)).trans (if_neg hst)))))
                      go_wp2_with (first | (go_at_call 124;refine(c152 _ _ _ _ _ _ _ _ hntm).mono ?_;rintro e wn ⟨rfl,hbn⟩;have R:=lH (R.out.step hbn);obtain⟨_,⟨q0,q1,q2,q3,q4⟩,q5,q6,q7,q8,q9,q10,q11,_,_⟩:=R.out;clear hbn) | (go_at_call 44;refine(c88 _ _ _ _ _ _ _ hntm).mono ?_;rintro e wn ⟨rfl,hbn⟩;have R:=lH (R.out.step hbn);obtain⟨_,⟨q0,q1,q2,q3,q4⟩,q5,q6,q7,q8,q9,q10,q11,_,_⟩:=R.out;clear hbn) | (at_lookup;refine gW rfl _ _ rfl bm k rfl _ _ rfl R.out.set hi0 hi1 ?_) | (go_at_call 125;refine(kG st sa _ sc _ rfl R.out.sl g4).mono ?_;rintro e wn ⟨rfl,hbn⟩;have R:=lH (R.out.step hbn);obtain⟨_,⟨q0,q1,q2,q3,q4⟩,q5,q6,q7,q8,q9,q10,q11,_,_⟩:=R.out;clear hbn) | (at_mapUpdate;refine gX rfl _ _ _ rfl bm k rfl _ _ rfl rfl R.out.set (by unfold maxLen;omega) hi0 hi1 ?_;intro wm hset hgrow;have HA:=lH (R.out.after hgrow hbm);have HT:=lH hset;clear hset hgrow))
                      go_ret;exact⟨by rw[HH.out,Hfk.out,HH2.out];rfl,R.out.below⟩
                · have hx1': ¬(k:Int)+1=x1:=fun e=>hx1 e.symm
                  have HH2:=lH ((Hat.out).trans ((if_neg (by rw[Hb12.out.1,Hb12.out.2];decide)).trans (if_pos (by unfold dD;omega))))
                  go_wp2_with (first | (go_at_call 124;refine(c152 _ _ _ _ _ _ _ _ hntm).mono ?_;rintro e wn ⟨rfl,hbn⟩;have R:=lH (R.out.step hbn);obtain⟨_,⟨q0,q1,q2,q3,q4⟩,q5,q6,q7,q8,q9,q10,q11,_,_⟩:=R.out;clear hbn) | (go_at_call 44;refine(c88 _ _ _ _ _ _ _ hntm).mono ?_;rintro e wn ⟨rfl,hbn⟩;have R:=lH (R.out.step hbn);obtain⟨_,⟨q0,q1,q2,q3,q4⟩,q5,q6,q7,q8,q9,q10,q11,_,_⟩:=R.out;clear hbn) | (at_lookup;refine gW rfl _ _ rfl bm k rfl _ _ rfl R.out.set hi0 hi1 ?_) | (go_at_call 125;refine(kG st sa _ sc _ rfl R.out.sl g4).mono ?_;rintro e wn ⟨rfl,hbn⟩;have R:=lH (R.out.step hbn);obtain⟨_,⟨q0,q1,q2,q3,q4⟩,q5,q6,q7,q8,q9,q10,q11,_,_⟩:=R.out;clear hbn) | (at_mapUpdate;refine gX rfl _ _ _ rfl bm k rfl _ _ rfl rfl R.out.set (by unfold maxLen;omega) hi0 hi1 ?_;intro wm hset hgrow;have HA:=lH (R.out.after hgrow hbm);have HT:=lH hset;clear hset hgrow))
                  go_ret;exact⟨by rw[HH.out,Hfk.out,HH2.out];rfl,R.out.below⟩
              · have hx0': ¬0=x0:=fun e=>hx0 e.symm
                have HH2:=lH ((Hat.out).trans ((if_neg (by rw[Hb12.out.1,Hb12.out.2];decide)).trans (if_pos (by unfold dD;omega))))
                go_wp2_with (first | (go_at_call 124;refine(c152 _ _ _ _ _ _ _ _ hntm).mono ?_;rintro e wn ⟨rfl,hbn⟩;have R:=lH (R.out.step hbn);obtain⟨_,⟨q0,q1,q2,q3,q4⟩,q5,q6,q7,q8,q9,q10,q11,_,_⟩:=R.out;clear hbn) | (go_at_call 44;refine(c88 _ _ _ _ _ _ _ hntm).mono ?_;rintro e wn ⟨rfl,hbn⟩;have R:=lH (R.out.step hbn);obtain⟨_,⟨q0,q1,q2,q3,q4⟩,q5,q6,q7,q8,q9,q10,q11,_,_⟩:=R.out;clear hbn) | (at_lookup;refine gW rfl _ _ rfl bm k rfl _ _ rfl R.out.set hi0 hi1 ?_) | (go_at_call 125;refine(kG st sa _ sc _ rfl R.out.sl g4).mono ?_;rintro e wn ⟨rfl,hbn⟩;have R:=lH (R.out.step hbn);obtain⟨_,⟨q0,q1,q2,q3,q4⟩,q5,q6,q7,q8,q9,q10,q11,_,_⟩:=R.out;clear hbn) | (at_mapUpdate;refine gX rfl _ _ _ rfl bm k rfl _ _ rfl rfl R.out.set (by unfold maxLen;omega) hi0 hi1 ?_;intro wm hset hgrow;have HA:=lH (R.out.after hgrow hbm);have HT:=lH hset;clear hset hgrow))
                go_ret;exact⟨by rw[HH.out,Hfk.out,HH2.out];rfl,R.out.below⟩
            · by_cases hx0:x0=0
              · subst hx0
                have HH2:=lH ((Hat.out).trans ((if_neg (by rw[Hb12.out.1,Hb12.out.2];decide)).trans (if_pos (by unfold dD;omega))))
                go_wp2_with (first | (go_at_call 124;refine(c152 _ _ _ _ _ _ _ _ hntm).mono ?_;rintro e wn ⟨rfl,hbn⟩;have R:=lH (R.out.step hbn);obtain⟨_,⟨q0,q1,q2,q3,q4⟩,q5,q6,q7,q8,q9,q10,q11,_,_⟩:=R.out;clear hbn) | (go_at_call 44;refine(c88 _ _ _ _ _ _ _ hntm).mono ?_;rintro e wn ⟨rfl,hbn⟩;have R:=lH (R.out.step hbn);obtain⟨_,⟨q0,q1,q2,q3,q4⟩,q5,q6,q7,q8,q9,q10,q11,_,_⟩:=R.out;clear hbn) | (at_lookup;refine gW rfl _ _ rfl bm k rfl _ _ rfl R.out.set hi0 hi1 ?_) | (go_at_call 125;refine(kG st sa _ sc _ rfl R.out.sl g4).mono ?_;rintro e wn ⟨rfl,hbn⟩;have R:=lH (R.out.step hbn);obtain⟨_,⟨q0,q1,q2,q3,q4⟩,q5,q6,q7,q8,q9,q10,q11,_,_⟩:=R.out;clear hbn) | (at_mapUpdate;refine gX rfl _ _ _ rfl bm k rfl _ _ rfl rfl R.out.set (by unfold maxLen;omega) hi0 hi1 ?_;intro wm hset hgrow;have HA:=lH (R.out.after hgrow hbm);have HT:=lH hset;clear hset hgrow))
                go_ret;exact⟨by rw[HH.out,Hfk.out,HH2.out];rfl,R.out.below⟩
              · have hx0b:(x0==0)=false:=by simpa using hx0
                by_cases hge:x1<=x0
                · skip
                  have HH2:=lH ((Hat.out).trans ((if_neg (by rw[Hb12.out.1,Hb12.out.2];decide)).trans (if_pos (by unfold dD;omega))))
                  go_wp2_with (first | (go_at_call 124;refine(c152 _ _ _ _ _ _ _ _ hntm).mono ?_;rintro e wn ⟨rfl,hbn⟩;have R:=lH (R.out.step hbn);obtain⟨_,⟨q0,q1,q2,q3,q4⟩,q5,q6,q7,q8,q9,q10,q11,_,_⟩:=R.out;clear hbn) | (go_at_call 44;refine(c88 _ _ _ _ _ _ _ hntm).mono ?_;rintro e wn ⟨rfl,hbn⟩;have R:=lH (R.out.step hbn);obtain⟨_,⟨q0,q1,q2,q3,q4⟩,q5,q6,q7,q8,q9,q10,q11,_,_⟩:=R.out;clear hbn) | (at_lookup;refine gW rfl _ _ rfl bm k rfl _ _ rfl R.out.set hi0 hi1 ?_) | (go_at_call 125;refine(kG st sa _ sc _ rfl R.out.sl g4).mono ?_;rintro e wn ⟨rfl,hbn⟩;have R:=lH (R.out.step hbn);obtain⟨_,⟨q0,q1,q2,q3,q4⟩,q5,q6,q7,q8,q9,q10,q11,_,_⟩:=R.out;clear hbn) | (at_mapUpdate;refine gX rfl _ _ _ rfl bm k rfl _ _ rfl rfl R.out.set (by unfold maxLen;omega) hi0 hi1 ?_;intro wm hset hgrow;have HA:=lH (R.out.after hgrow hbm);have HT:=lH hset;clear hset hgrow))
                  go_ret;exact⟨by rw[HH.out,Hfk.out,HH2.out];rfl,R.out.below⟩
                · skip
                  cases hme:bZ (aX (ls.map dH) k) x0 x1 with
                  |true=>
                    have HH2:=lH ((Hat.out).trans ((if_neg (by rw[Hb12.out.1,Hb12.out.2];decide)).trans ((if_neg (by unfold dD;omega)).trans (if_pos hme))))
                    go_wp2_with (first | (go_at_call 124;refine(c152 _ _ _ _ _ _ _ _ hntm).mono ?_;rintro e wn ⟨rfl,hbn⟩;have R:=lH (R.out.step hbn);obtain⟨_,⟨q0,q1,q2,q3,q4⟩,q5,q6,q7,q8,q9,q10,q11,_,_⟩:=R.out;clear hbn) | (go_at_call 44;refine(c88 _ _ _ _ _ _ _ hntm).mono ?_;rintro e wn ⟨rfl,hbn⟩;have R:=lH (R.out.step hbn);obtain⟨_,⟨q0,q1,q2,q3,q4⟩,q5,q6,q7,q8,q9,q10,q11,_,_⟩:=R.out;clear hbn) | (at_lookup;refine gW rfl _ _ rfl bm k rfl _ _ rfl R.out.set hi0 hi1 ?_) | (go_at_call 125;refine(kG st sa _ sc _ rfl R.out.sl g4).mono ?_;rintro e wn ⟨rfl,hbn⟩;have R:=lH (R.out.step hbn);obtain⟨_,⟨q0,q1,q2,q3,q4⟩,q5,q6,q7,q8,q9,q10,q11,_,_⟩:=R.out;clear hbn) | (at_mapUpdate;refine gX rfl _ _ _ rfl bm k rfl _ _ rfl rfl R.out.set (by unfold maxLen;omega) hi0 hi1 ?_;intro wm hset hgrow;have HA:=lH (R.out.after hgrow hbm);have HT:=lH hset;clear hset hgrow))
                    go_ret;exact⟨by rw[HH.out,Hfk.out,HH2.out];rfl,R.out.below⟩
                  |false=>
                    have Hme:=lH hme;by_cases hst:bJ st=0
                    · have HH2:=lH ((Hat.out).trans ((if_neg (by rw[Hb12.out.1,Hb12.out.2];decide)).trans ((if_neg (by unfold dD;omega)).trans ((if_neg (ng Hme.out)).trans (if_pos hst)))))
                      go_wp2_with (first | (go_at_call 124;refine(c152 _ _ _ _ _ _ _ _ hntm).mono ?_;rintro e wn ⟨rfl,hbn⟩;have R:=lH (R.out.step hbn);obtain⟨_,⟨q0,q1,q2,q3,q4⟩,q5,q6,q7,q8,q9,q10,q11,_,_⟩:=R.out;clear hbn) | (go_at_call 44;refine(c88 _ _ _ _ _ _ _ hntm).mono ?_;rintro e wn ⟨rfl,hbn⟩;have R:=lH (R.out.step hbn);obtain⟨_,⟨q0,q1,q2,q3,q4⟩,q5,q6,q7,q8,q9,q10,q11,_,_⟩:=R.out;clear hbn) | (at_lookup;refine gW rfl _ _ rfl bm k rfl _ _ rfl R.out.set hi0 hi1 ?_) | (go_at_call 125;refine(kG st sa _ sc _ rfl R.out.sl g4).mono ?_;rintro e wn ⟨rfl,hbn⟩;have R:=lH (R.out.step hbn);obtain⟨_,⟨q0,q1,q2,q3,q4⟩,q5,q6,q7,q8,q9,q10,q11,_,_⟩:=R.out;clear hbn) | (at_mapUpdate;refine gX rfl _ _ _ rfl bm k rfl _ _ rfl rfl R.out.set (by unfold maxLen;omega) hi0 hi1 ?_;intro wm hset hgrow;have HA:=lH (R.out.after hgrow hbm);have HT:=lH hset;clear hset hgrow))
                      go_roundw
                      case rel=>exact⟨k+1,by omega,by go_num,by rw[Hfk.out,HH2.out],HA.out.1,HA.out.2,by rw[pU Hpx.out];exact HT.out⟩
                      case measure=>simp[intOf];omega
                    · have HH2:=lH ((Hat.out).trans ((if_neg (by rw[Hb12.out.1,Hb12.out.2];decide)).trans ((if_neg (by unfold dD;omega)).trans ((if_neg (ng Hme.out)).trans (if_neg hst)))))
                      go_wp2_with (first | (go_at_call 124;refine(c152 _ _ _ _ _ _ _ _ hntm).mono ?_;rintro e wn ⟨rfl,hbn⟩;have R:=lH (R.out.step hbn);obtain⟨_,⟨q0,q1,q2,q3,q4⟩,q5,q6,q7,q8,q9,q10,q11,_,_⟩:=R.out;clear hbn) | (go_at_call 44;refine(c88 _ _ _ _ _ _ _ hntm).mono ?_;rintro e wn ⟨rfl,hbn⟩;have R:=lH (R.out.step hbn);obtain⟨_,⟨q0,q1,q2,q3,q4⟩,q5,q6,q7,q8,q9,q10,q11,_,_⟩:=R.out;clear hbn) | (at_lookup;refine gW rfl _ _ rfl bm k rfl _ _ rfl R.out.set hi0 hi1 ?_) | (go_at_call 125;refine(kG st sa _ sc _ rfl R.out.sl g4).mono ?_;rintro e wn ⟨rfl,hbn⟩;have R:=lH (R.out.step hbn);obtain⟨_,⟨q0,q1,q2,q3,q4⟩,q5,q6,q7,q8,q9,q10,q11,_,_⟩:=R.out;clear hbn) | (at_mapUpdate;refine gX rfl _ _ _ rfl bm k rfl _ _ rfl rfl R.out.set (by unfold maxLen;omega) hi0 hi1 ?_;intro wm hset hgrow;have HA:=lH (R.out.after hgrow hbm);have HT:=lH hset;clear hset hgrow))
                      go_ret;exact⟨by rw[HH.out,Hfk.out,HH2.out];rfl,R.out.below⟩
      · have hke:ls.length<=k:=by omega
        go_wp2;go_ret;exact⟨by rw[HH.out,Hfk.out,Gy hke];rfl,hb⟩
def jc (l:List (Int×Int)):Bool:=l.any fun x=> !dw x
def fP (nt hours:Int) (S:List (Int×Int)):List Pr->Int
 | []=>0
 |x::l=>if btw x.one 0 (nt-1)=false\/btw x.two 0 (nt-1)=false then 6 else if x.two<=x.one then 7 else if bZ S x.one x.two then 5 else
  if (x.calls.length:Int)=hours then (if jc x.calls then 1 else fP nt hours ((x.one,x.two)::S) l) else 2
def prP (x:Pr):Int×Int:=(x.one,x.two)
def dR (nt hours:Int) (ps:List Pr):Int:=if 6<ps.length then 2 else fP nt hours [] ps
theorem Gz {nt hours:Int} {ps:List Pr} {k:Nat} {x:Pr} (h:ps[k]? =some x):fP nt hours (aX (ps.map prP) k) (ps.drop k)=
  if btw x.one 0 (nt-1)=false\/btw x.two 0 (nt-1)=false then 6 else if x.two<=x.one then 7 else if bZ (aX (ps.map prP) k) x.one x.two then 5 else
  if (x.calls.length:Int)=hours then (if jc x.calls then 1 else fP nt hours (aX (ps.map prP) (k+1)) (ps.drop (k+1))) else 2:=by
 rw[pU (p:=(x.one,x.two)) (by rw[List.getElem?_map,h];rfl)];obtain⟨hl,rfl⟩:=lS.1 h
 conv=>lhs;rw[List.drop_eq_getElem_cons hl];unfold fP
theorem GH {nt hours:Int} {ps:List Pr} {k:Nat} {S:List (Int×Int)} (h:ps.length<=k):fP nt hours S (ps.drop k)=0:=by rw[List.drop_of_length_le h];rfl
def jv (w:wD) (pa:Option aD) (ps:List Pr):Prop:= ∀(i:Nat) (L:Pr),ps[i]? =some L-> ∃b o sa sc,pa=some ⟨b,o,none⟩/\w.cell? ⟨b,o+i*3,none⟩=some (iN qi L.one)/\w.cell? ⟨b,o+i*3+1,none⟩=some (iN qi L.two)/\w.cell? ⟨b,o+i*3+2,none⟩=some (sL sa L.calls.length sc)/\SlB w sa L.calls/\L.calls.length<=1000000
theorem jv.below {n:Nat} {w w':wD} {pa:Option aD} {ps:List Pr} (h:jv w pa ps) (hb:bX n w w') (hn:w.heap.size<=n):jv w' pa ps:=fun i L hi=>by
 obtain⟨b,o,sa,sc,h1,h2,h3,h4,h5,h6⟩:=h i L hi;exact⟨b,o,sa,sc,h1,aoF hb h2 hn,aoF hb h3 hn,aoF hb h4 hn,h5.below hb hn,h6⟩
theorem nY (l:List (Int×Int)) (sa:Option aD) (n cap:Nat) (w:wD) (hn:n=l.length) (hs:SlB w sa l) (hl:l.length<=1000000):
  Calls tP 126 #[sL sa n cap,.func (.func 127) #[] #[]] w fun e w'=>e= .returned (.bool (jc l))/\bX w.heap.size w w':=
 c154 127 (fun x=> !dw x) sa l n cap w hn hs hl (cf Tryd.func127 (by rfl) (by rfl)) (fun x w1 _=>OV x.1 x.2 w1)
theorem GI (h:Int) (ta:Option aD) (nt tc:Nat) (la:Option aD) (ln lc:Nat) (pa:Option aD) (ps:List Pr) (pc:Nat) (w:wD) (hs:jv w pa ps) (hl:ps.length<=1000000) (hnt:nt<=1000000):
  Calls tP 121 #[.agg #[iN qi h,sL ta nt tc,sL la ln lc,sL pa ps.length pc]] w fun e w'=>e= .returned (iN qi (dR nt h ps))/\bX w.heap.size w w':=by
 have Hs:=lH hs;clear hs;have hntm:nt<=maxLen:=by unfold maxLen;omega
 have hmm:= @run_makeMap tP;by_cases h6:6<ps.length
 ·have HH:=lH (show dR (nt:Int) h ps=2 by unfold dR;rw[if_pos h6]);have h6':(6 :Int)<(ps.length:Int):=by omega
  go_enter Tryd.func121,Tryd.ntmps121;go_wp2;go_ret;exact⟨by rw[HH.out];rfl,(bR _ _).alloc (nR _) _⟩
 ·have HH:=lH (show dR (nt:Int) h ps=fP nt h [] ps by unfold dR;rw[if_neg h6]);have h6': ¬(6 :Int)<(ps.length:Int):=by omega
  go_enter Tryd.func121,Tryd.ntmps121
  go_wp2_with fail
  obtain⟨w1,hw1⟩: ∃w1,w1=w.alloc (.cells #[iN qi h,sL ta nt tc,sL la ln lc,sL pa ps.length pc] 81):=⟨_,rfl⟩;have hB1:gI w1 w.heap.size h (sL ta nt tc) (sL la ln lc) (sL pa ps.length pc):=by subst hw1;exact⟨by simp,by go_simp,by go_simp,by go_simp,by go_simp⟩
  have hbw:bX w.heap.size w w1:=by subst hw1;exact(bR _ _).alloc (nR _) _
  have hz1:w1.heap.size=w.heap.size+1:=by subst hw1;simp
  have hset:=dM.made w1;have hbm:w.heap.size<w1.heap.size:=by omega
  have hbw2:=hbw.trans (((bR _ _).alloc (nR _) (.map #[] 0)).mono hbw.size);have hB2:gI (w1.alloc (.map #[] 0)) w.heap.size h (sL ta nt tc) (sL la ln lc) (sL pa ps.length pc):=hB1.below ((bR _ _).alloc (nR _) _) hbm;rw[hz1] at hset hbm;subst hw1;generalize (w.alloc (.cells #[iN qi h,sL ta nt tc,sL la ln lc,sL pa ps.length pc] 81)).alloc (.map #[] 0)=w2 at *;generalize w.heap.size+1=bm at *;clear hB1 hbw hz1
  go_loopw [17] (fun i wr=> ∃k:Nat,k<=ps.length/\i= iN qi (k:Int)/\fP nt h [] ps=fP nt h (aX (ps.map prP) k) (ps.drop k)/\bX w.heap.size w wr/\gI wr w.heap.size h (sL ta nt tc) (sL la ln lc) (sL pa ps.length pc)/\dM wr bm k (aX (ps.map prP) k)) (fun i _=>ps.length-(intOf i).toNat)
  case atStart=>exact⟨0,Nat.zero_le _,rfl,rfl,hbw2,hB2,hset⟩
  case round=>
   obtain⟨k,hk,rfl,hfk,hb,hB,hS⟩:=hrel;have Hfk:=lH hfk;have HB:=lH hB;have HS:=lH hS;clear hfk hB hS hB2 hset hbw2;by_cases hlt:k<ps.length
   ·have hx:ps[k]? =some ps[k]:=lG hlt;obtain⟨b,o,sa,sc,rfl,g0,g1,g2,g3,g4⟩:=(Hs.out.below hb (nR _)) k _ hx;have hat:=Gz (nt:=nt) (hours:=h) hx;have hpx:(ps.map prP)[k]? =some ((ps[k]).one,(ps[k]).two):=by rw[List.getElem?_map,hx];rfl
    generalize (ps[k]).one=x0 at *;generalize (ps[k]).two=x1 at *;generalize (ps[k]).calls=st at *;have Hpx:=lH hpx;have G3:=lH g3;have Hat:=lH hat;clear hx hpx g3 hat;obtain⟨q0,q1,q2,q3,q4⟩:=HB.out;have R:Hid (LkR w wr.heap.size (wr.heap.size+1) bm k (aX (ps.map prP) k) h (sL ta nt tc) (sL la ln lc) (sL (some ⟨b,o,none⟩) ps.length pc) x0 x1 (sL sa st.length sc) sa st ((wr.alloc (.cells #[iN qi x0,iN qi x1,sL sa st.length sc] 68)).alloc (.cells #[iN qi x0,iN qi x1] 132))):=
     lH ⟨hb.trans (((bR _ _).alloc (nR _) _).alloc (by simp) _ |>.mono hb.size),HB.out.below (((bR _ _).alloc (nR _) _).alloc (by simp) _) q0,by simp;omega,by simp,by go_simp,by go_simp,by go_simp,by go_simp,by go_simp,HS.out.below (((bR _ _).alloc (nR _) _).alloc (by simp) _) HS.out.lt,G3.out.below (((bR _ _).alloc (nR _) _).alloc (by simp) _) (nR _)⟩
    cases hb1:btw x0 0 ((nt:Int)-1) with
    |false=>
     have HH2:=lH ((Hat.out).trans (if_pos (.inl hb1)))
     go_wp2_with (first | (go_at_call 124;refine(c152 _ _ _ _ _ _ _ _ hntm).mono ?_;rintro e wn ⟨rfl,hbn⟩;have R:=lH (R.out.step hbn);obtain⟨_,⟨q0,q1,q2,q3,q4⟩,q5,q6,q7,q8,q9,q10,q11,_,_⟩:=R.out;clear hbn) | (at_lookup;refine gW rfl _ _ rfl bm k rfl _ _ rfl R.out.set hi0 hi1 ?_) | (go_at_call 126;refine(nY st sa _ sc _ rfl R.out.sl g4).mono ?_;rintro e wn ⟨rfl,hbn⟩;have R:=lH (R.out.step hbn);obtain⟨_,⟨q0,q1,q2,q3,q4⟩,q5,q6,q7,q8,q9,q10,q11,_,_⟩:=R.out;clear hbn) | (at_mapUpdate;refine gX rfl _ _ _ rfl bm k rfl _ _ rfl rfl R.out.set (by unfold maxLen;omega) hi0 hi1 ?_;intro wm hset hgrow;have HA:=lH (R.out.after hgrow hbm);have HT:=lH hset;clear hset hgrow))
     go_ret;exact⟨by rw[HH.out,Hfk.out,HH2.out];rfl,R.out.below⟩
    |true=>
     cases hb2:btw x1 0 ((nt:Int)-1) with
     |false=>
      have HH2:=lH ((Hat.out).trans (if_pos (.inr hb2)))
      go_wp2_with (first | (go_at_call 124;refine(c152 _ _ _ _ _ _ _ _ hntm).mono ?_;rintro e wn ⟨rfl,hbn⟩;have R:=lH (R.out.step hbn);obtain⟨_,⟨q0,q1,q2,q3,q4⟩,q5,q6,q7,q8,q9,q10,q11,_,_⟩:=R.out;clear hbn) | (at_lookup;refine gW rfl _ _ rfl bm k rfl _ _ rfl R.out.set hi0 hi1 ?_) | (go_at_call 126;refine(nY st sa _ sc _ rfl R.out.sl g4).mono ?_;rintro e wn ⟨rfl,hbn⟩;have R:=lH (R.out.step hbn);obtain⟨_,⟨q0,q1,q2,q3,q4⟩,q5,q6,q7,q8,q9,q10,q11,_,_⟩:=R.out;clear hbn) | (at_mapUpdate;refine gX rfl _ _ _ rfl bm k rfl _ _ rfl rfl R.out.set (by unfold maxLen;omega) hi0 hi1 ?_;intro wm hset hgrow;have HA:=lH (R.out.after hgrow hbm);have HT:=lH hset;clear hset hgrow))
      go_ret;exact⟨by rw[HH.out,Hfk.out,HH2.out];rfl,R.out.below⟩
     |true=>
      have Hb12:=lH (show _/\_ from⟨hb1,hb2⟩);obtain⟨hx00,hx01⟩:=fK hb1;obtain⟨hx10,hx11⟩:=fK hb2;have hi0:bD x0:=⟨by omega,by omega⟩;have hi1:bD x1:=⟨by omega,by omega⟩;by_cases hge:x1<=x0
      ·have HH2:=lH ((Hat.out).trans ((if_neg (by rw[Hb12.out.1,Hb12.out.2];decide)).trans (if_pos hge)))
       go_wp2_with (first | (go_at_call 124;refine(c152 _ _ _ _ _ _ _ _ hntm).mono ?_;rintro e wn ⟨rfl,hbn⟩;have R:=lH (R.out.step hbn);obtain⟨_,⟨q0,q1,q2,q3,q4⟩,q5,q6,q7,q8,q9,q10,q11,_,_⟩:=R.out;clear hbn) | (at_lookup;refine gW rfl _ _ rfl bm k rfl _ _ rfl R.out.set hi0 hi1 ?_) | (go_at_call 126;refine(nY st sa _ sc _ rfl R.out.sl g4).mono ?_;rintro e wn ⟨rfl,hbn⟩;have R:=lH (R.out.step hbn);obtain⟨_,⟨q0,q1,q2,q3,q4⟩,q5,q6,q7,q8,q9,q10,q11,_,_⟩:=R.out;clear hbn) | (at_mapUpdate;refine gX rfl _ _ _ rfl bm k rfl _ _ rfl rfl R.out.set (by unfold maxLen;omega) hi0 hi1 ?_;intro wm hset hgrow;have HA:=lH (R.out.after hgrow hbm);have HT:=lH hset;clear hset hgrow))
       go_ret;exact⟨by rw[HH.out,Hfk.out,HH2.out];rfl,R.out.below⟩
      ·cases hme:bZ (aX (ps.map prP) k) x0 x1 with
       |true=>
        have HH2:=lH ((Hat.out).trans ((if_neg (by rw[Hb12.out.1,Hb12.out.2];decide)).trans ((if_neg hge).trans (if_pos hme))))
        go_wp2_with (first | (go_at_call 124;refine(c152 _ _ _ _ _ _ _ _ hntm).mono ?_;rintro e wn ⟨rfl,hbn⟩;have R:=lH (R.out.step hbn);obtain⟨_,⟨q0,q1,q2,q3,q4⟩,q5,q6,q7,q8,q9,q10,q11,_,_⟩:=R.out;clear hbn) | (at_lookup;refine gW rfl _ _ rfl bm k rfl _ _ rfl R.out.set hi0 hi1 ?_) | (go_at_call 126;refine(nY st sa _ sc _ rfl R.out.sl g4).mono ?_;rintro e wn ⟨rfl,hbn⟩;have R:=lH (R.out.step hbn);obtain⟨_,⟨q0,q1,q2,q3,q4⟩,q5,q6,q7,q8,q9,q10,q11,_,_⟩:=R.out;clear hbn) | (at_mapUpdate;refine gX rfl _ _ _ rfl bm k rfl _ _ rfl rfl R.out.set (by unfold maxLen;omega) hi0 hi1 ?_;intro wm hset hgrow;have HA:=lH (R.out.after hgrow hbm);have HT:=lH hset;clear hset hgrow))
        go_ret;exact⟨by rw[HH.out,Hfk.out,HH2.out];rfl,R.out.below⟩
       |false=>
        have Hme:=lH hme;by_cases hln:(st.length:Int)=h
        ·subst hln
         cases hba:jc st with
         |true=>
          have HH2:=lH ((Hat.out).trans ((if_neg (by rw[Hb12.out.1,Hb12.out.2];decide)).trans ((if_neg hge).trans ((if_neg (ng Hme.out)).trans ((if_pos rfl).trans (if_pos hba))))))
          go_wp2_with (first | (go_at_call 124;refine(c152 _ _ _ _ _ _ _ _ hntm).mono ?_;rintro e wn ⟨rfl,hbn⟩;have R:=lH (R.out.step hbn);obtain⟨_,⟨q0,q1,q2,q3,q4⟩,q5,q6,q7,q8,q9,q10,q11,_,_⟩:=R.out;clear hbn) | (at_lookup;refine gW rfl _ _ rfl bm k rfl _ _ rfl R.out.set hi0 hi1 ?_) | (go_at_call 126;refine(nY st sa _ sc _ rfl R.out.sl g4).mono ?_;rintro e wn ⟨rfl,hbn⟩;have R:=lH (R.out.step hbn);obtain⟨_,⟨q0,q1,q2,q3,q4⟩,q5,q6,q7,q8,q9,q10,q11,_,_⟩:=R.out;clear hbn) | (at_mapUpdate;refine gX rfl _ _ _ rfl bm k rfl _ _ rfl rfl R.out.set (by unfold maxLen;omega) hi0 hi1 ?_;intro wm hset hgrow;have HA:=lH (R.out.after hgrow hbm);have HT:=lH hset;clear hset hgrow))
          go_ret;exact⟨by rw[HH.out,Hfk.out,HH2.out];rfl,R.out.below⟩
         |false=>
          have Hba:=lH hba;have HH2:=lH ((Hat.out).trans ((if_neg (by rw[Hb12.out.1,Hb12.out.2];decide)).trans ((if_neg hge).trans ((if_neg (ng Hme.out)).trans ((if_pos rfl).trans (if_neg (ng Hba.out)))))))
          go_wp2_with (first | (go_at_call 124;refine(c152 _ _ _ _ _ _ _ _ hntm).mono ?_;rintro e wn ⟨rfl,hbn⟩;have R:=lH (R.out.step hbn);obtain⟨_,⟨q0,q1,q2,q3,q4⟩,q5,q6,q7,q8,q9,q10,q11,_,_⟩:=R.out;clear hbn) | (at_lookup;refine gW rfl _ _ rfl bm k rfl _ _ rfl R.out.set hi0 hi1 ?_) | (go_at_call 126;refine(nY st sa _ sc _ rfl R.out.sl g4).mono ?_;rintro e wn ⟨rfl,hbn⟩;have R:=lH (R.out.step hbn);obtain⟨_,⟨q0,q1,q2,q3,q4⟩,q5,q6,q7,q8,q9,q10,q11,_,_⟩:=R.out;clear hbn) | (at_mapUpdate;refine gX rfl _ _ _ rfl bm k rfl _ _ rfl rfl R.out.set (by unfold maxLen;omega) hi0 hi1 ?_;intro wm hset hgrow;have HA:=lH (R.out.after hgrow hbm);have HT:=lH hset;clear hset hgrow))
          go_roundw
          case rel=>exact⟨k+1,by omega,by go_num,by rw[Hfk.out,HH2.out],HA.out.1,HA.out.2,by rw[pU Hpx.out];exact HT.out⟩
          case measure=>simp[intOf];omega
        ·have HH2:=lH ((Hat.out).trans ((if_neg (by rw[Hb12.out.1,Hb12.out.2];decide)).trans ((if_neg hge).trans ((if_neg (ng Hme.out)).trans (if_neg hln)))))
         go_wp2_with (first | (go_at_call 124;refine(c152 _ _ _ _ _ _ _ _ hntm).mono ?_;rintro e wn ⟨rfl,hbn⟩;have R:=lH (R.out.step hbn);obtain⟨_,⟨q0,q1,q2,q3,q4⟩,q5,q6,q7,q8,q9,q10,q11,_,_⟩:=R.out;clear hbn) | (at_lookup;refine gW rfl _ _ rfl bm k rfl _ _ rfl R.out.set hi0 hi1 ?_) | (go_at_call 126;refine(nY st sa _ sc _ rfl R.out.sl g4).mono ?_;rintro e wn ⟨rfl,hbn⟩;have R:=lH (R.out.step hbn);obtain⟨_,⟨q0,q1,q2,q3,q4⟩,q5,q6,q7,q8,q9,q10,q11,_,_⟩:=R.out;clear hbn) | (at_mapUpdate;refine gX rfl _ _ _ rfl bm k rfl _ _ rfl rfl R.out.set (by unfold maxLen;omega) hi0 hi1 ?_;intro wm hset hgrow;have HA:=lH (R.out.after hgrow hbm);have HT:=lH hset;clear hset hgrow))
         go_ret;exact⟨by rw[HH.out,Hfk.out,HH2.out];rfl,R.out.below⟩
   ·have hke:ps.length<=k:=by omega
    go_wp2;go_ret;exact⟨by rw[HH.out,Hfk.out,GH hke];rfl,hb⟩
structure aB (w:wD) (V:BkV) (B:Bk):Prop where
 towns:SlS w V.ta B.towns
 links:jr w V.la B.links
 pairs:jv w V.pa B.pairs
 nt:B.towns.length<=1000000
 nl:B.links.length<=1000000
 np:B.pairs.length<=1000000
 tc:B.towns.length<=V.tc/\V.tc<=9223372036854775807
theorem aB.below {n:Nat} {w w':wD} {V:BkV} {B:Bk} (h:aB w V B) (hb:bX n w w') (hn:w.heap.size<=n):aB w' V B:=
 ⟨h.towns.below hb hn,h.links.below hb hn,h.pairs.below hb hn,h.nt,h.nl,h.np,h.tc⟩
theorem aB.at {w:wD} {V:BkV} {B:Bk} (h:aB w V B):bT w V B:=
 ⟨h.towns,fun i L hi=>by obtain⟨b,o,sa,sc,h1,h2,h3,h4,h5,_⟩:=h.links i L hi;exact⟨b,o,sa,sc,h1,h2,h3,h4,h5⟩,fun i L hi=>by obtain⟨b,o,sa,sc,h1,h2,h3,h4,h5,_⟩:=h.pairs i L hi;exact⟨b,o,sa,sc,h1,h2,h3,h4,h5⟩⟩
structure iG (w:wD):Prop where
 c0:w.cell? ⟨2,0,none⟩=some (.func (.func 118) #[] #[])
 c1:w.cell? ⟨2,1,none⟩=some (.func (.func 119) #[] #[])
 c2:w.cell? ⟨2,2,none⟩=some (.func (.func 120) #[] #[])
 c3:w.cell? ⟨2,3,none⟩=some (.func (.func 121) #[] #[])
theorem iG.below {n:Nat} {w w':wD} (h:iG w) (hb:bX n w w') (hn:w.heap.size<=n):iG w':=⟨aoF hb h.c0 hn,aoF hb h.c1 hn,aoF hb h.c2 hn,aoF hb h.c3 hn⟩
def alK (B:Bk):Nat->Int
 | 0=>iZ B.hours
 | 1=>fM B.towns
 | 2=>dA B.towns.length B.links
 |_=>dR B.towns.length B.hours B.pairs
def kH (B:Bk):Nat->Nat->Int
 | 0,_=>0
 |n+1,k=>if alK B k=0 then kH B n (k+1) else alK B k
def _root_.Go.Rent.Bk.alarm (B:Bk):Int:=kH B 4 0
theorem c19 (V:BkV) (B:Bk) (w:wD) (hs:aB w V B) (hv:iG w):Calls tP 50 #[V.val B] w fun e w'=>e= .returned (iN qi B.alarm)/\bX w.heap.size w w':=by
 obtain⟨ta,la,pa,tc,lc,pc⟩:=V;have Hs:=lH hs;obtain⟨v0,v1,v2,v3⟩:=hv;have hz2:=World.block_lt_of_cell? w _ v0;clear hs;have i0: ∀x0 x1 x2 x3 w,(Instr.index 126 (.agg #[x0,x1,x2,x3]) (iN qi 0)).run tP w= .ok x0 w:=fun _ _ _ _ _=>by kernel_rfl
 have i1: ∀x0 x1 x2 x3 w,(Instr.index 126 (.agg #[x0,x1,x2,x3]) (iN qi 1)).run tP w= .ok x1 w:=fun _ _ _ _ _=>by kernel_rfl
 have i2: ∀x0 x1 x2 x3 w,(Instr.index 126 (.agg #[x0,x1,x2,x3]) (iN qi 2)).run tP w= .ok x2 w:=fun _ _ _ _ _=>by kernel_rfl
 have i3: ∀x0 x1 x2 x3 w,(Instr.index 126 (.agg #[x0,x1,x2,x3]) (iN qi 3)).run tP w= .ok x3 w:=fun _ _ _ _ _=>by kernel_rfl
 have HA:Hid (B.alarm=kH B 4 0):=rfl;go_enter Tryd.func50,Tryd.ntmps50
 go_wp2_with fail
 go_loopw [7] (fun i wr=> ∃k:Nat,k<=4/\i= iN qi (k:Int)/\B.alarm=kH B (4-k) k/\bX w.heap.size w wr/\gI wr w.heap.size B.hours (sL ta B.towns.length tc) (sL la B.links.length lc) (sL pa B.pairs.length pc)) (fun i _=>4-(intOf i).toNat)
 case atStart=>exact⟨0,by omega,rfl,HA.out,(bR _ _).alloc (nR _) _,by simp,by go_simp,by go_simp,by go_simp,by go_simp⟩
 case round=>
  obtain⟨k,hk,rfl,hfk,hb,hB⟩:=hrel;have Hfk:=lH hfk;clear hfk;have Hw:=lH (Hs.out.below hb (nR _));have HB:=lH hB;obtain⟨q0,q1,q2,q3,q4⟩:=hB;obtain rfl |rfl |rfl |rfl |rfl:k=0\/k=1\/k=2\/k=3\/k=4:=by omega
  ·by_cases ha:iZ B.hours=0
   ·go_wp2_with (go_at_call 118;refine(c146 _ _ _ _ _).mono ?_;rintro e wn ⟨rfl,hbn⟩)
    go_roundw
    case rel=>exact⟨1,by omega,by rfl,by rw[Hfk.out];exact if_pos ha,hb.trans (hbn.mono hb.size),HB.out.below hbn q0⟩
    case measure=>simp[intOf]
   ·go_wp2_with (go_at_call 118;refine(c146 _ _ _ _ _).mono ?_;rintro e wn ⟨rfl,hbn⟩)
    go_ret;exact⟨by rw[Hfk.out];exact congrArg (fun x=>Ending.returned (iN qi x)) (if_neg ha).symm,hb.trans (hbn.mono hb.size)⟩
  ·by_cases ha:fM B.towns=0
   ·go_wp2_with (go_at_call 119;refine(Gs _ _ _ _ _ _ _ _ rfl Hw.out.towns Hw.out.tc.1 Hw.out.nt Hw.out.tc.2).mono ?_;rintro e wn ⟨rfl,hbn⟩)
    go_roundw
    case rel=>exact⟨2,by omega,by rfl,by rw[Hfk.out];exact if_pos ha,hb.trans (hbn.mono hb.size),HB.out.below hbn q0⟩
    case measure=>simp[intOf]
   ·go_wp2_with (go_at_call 119;refine(Gs _ _ _ _ _ _ _ _ rfl Hw.out.towns Hw.out.tc.1 Hw.out.nt Hw.out.tc.2).mono ?_;rintro e wn ⟨rfl,hbn⟩)
    go_ret;exact⟨by rw[Hfk.out];exact congrArg (fun x=>Ending.returned (iN qi x)) (if_neg ha).symm,hb.trans (hbn.mono hb.size)⟩
  ·by_cases ha:dA B.towns.length B.links=0
   ·go_wp2_with (go_at_call 120;refine(c148 _ _ _ _ _ _ _ _ _ _ _ Hw.out.links Hw.out.nl Hw.out.nt).mono ?_;rintro e wn ⟨rfl,hbn⟩)
    go_roundw
    case rel=>exact⟨3,by omega,by rfl,by rw[Hfk.out];exact if_pos ha,hb.trans (hbn.mono hb.size),HB.out.below hbn q0⟩
    case measure=>simp[intOf]
   ·go_wp2_with (go_at_call 120;refine(c148 _ _ _ _ _ _ _ _ _ _ _ Hw.out.links Hw.out.nl Hw.out.nt).mono ?_;rintro e wn ⟨rfl,hbn⟩)
    go_ret;exact⟨by rw[Hfk.out];exact congrArg (fun x=>Ending.returned (iN qi x)) (if_neg ha).symm,hb.trans (hbn.mono hb.size)⟩
  ·by_cases ha:dR B.towns.length B.hours B.pairs=0
   ·go_wp2_with (go_at_call 121;refine(GI _ _ _ _ _ _ _ _ _ _ _ Hw.out.pairs Hw.out.np Hw.out.nt).mono ?_;rintro e wn ⟨rfl,hbn⟩)
    go_roundw
    case rel=>exact⟨4,by omega,by rfl,by rw[Hfk.out];exact if_pos ha,hb.trans (hbn.mono hb.size),HB.out.below hbn q0⟩
    case measure=>simp[intOf]
   ·go_wp2_with (go_at_call 121;refine(GI _ _ _ _ _ _ _ _ _ _ _ Hw.out.pairs Hw.out.np Hw.out.nt).mono ?_;rintro e wn ⟨rfl,hbn⟩)
    go_ret;exact⟨by rw[Hfk.out];exact congrArg (fun x=>Ending.returned (iN qi x)) (if_neg ha).symm,hb.trans (hbn.mono hb.size)⟩
  ·go_wp2;go_ret;exact⟨by rw[Hfk.out];rfl,hb⟩
end Go.Proofs.YtfiiffnbggnkfaaDoor
