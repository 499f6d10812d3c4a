/- A part of the proof of a law; no conditions of its own. -/
import Derived.Test.YtaikibfkggglgaaDoorYear01
set_option maxRecDepth 100000
open Nat renaming le_refl→nR
open Go.Lib renaming hid→lH
open List renaming getElem?_eq_getElem→lG
open Go.World renaming block_lt_of_cell?→wBk
open List renaming getD_eq_getElem?_getD→lD
set_option maxHeartbeats 4000000
namespace Go.Proofs.YtaikibfkggglgaaDoor
open Go.RowKit Go.Rent Go.Tp Go.Conc
theorem adT {nt:Int}: ∀(l:List Lnk) (k:Nat) (S:List (Int×Int)),fO nt k S l=0->(∀x∈l,bZ S x.one x.two=false)/\ ∀(i j:Nat) (x y:Lnk),i<j->l[i]? =some x->l[j]? =some y-> ¬(x.one=y.one/\x.two=y.two)
 | [],_,S,_=>⟨fun x hx=>(by cases hx),fun i j x y _ h=>(by cases h)⟩
 |p::l,k,S,h=>by
  unfold fO at h
  split at h
  ·cases h
  split at h
  ·cases h
  split at h
  ·cases h
  rename_i hm
  split at h
  ·obtain⟨h1,h2⟩:=adT l _ _ h;have hs: ∀x∈l,bZ S x.one x.two=false/\ ¬(p.one=x.one/\p.two=x.two):=fun x hx=>by
    have:=h1 x hx;rw[Ce,Bool.or_eq_false_iff] at this;refine⟨this.2,fun⟨e1,e2⟩=> ?_⟩;have h3:=this.1;rw[e1,e2] at h3;simp at h3
   refine⟨fun x hx=> ?_,fun i j x y hij hx hy=> ?_⟩
   ·rcases List.mem_cons.1 hx with e |e
    ·subst e;simpa using hm
    ·exact(hs x e).1
   ·cases j with
    |zero=>omega
    |succ j=>
     rw[List.getElem?_cons_succ] at hy
     cases i with
     |zero=>cases hx;exact(hs y (List.mem_of_getElem? hy)).2
     |succ i=>exact h2 i j x y (by omega) (by simpa using hx) hy
  ·exact absurd h (by assumption)
theorem aeb {B:Bk} (h:B.alarm=0) {i j:Nat} (hij:i<j) (hj:j<B.links.length): ¬(B.one i=B.one j/\B.two i=B.two j):=by
 obtain⟨_,_,h3,_⟩:=GX h;unfold dA at h3
 split at h3
 ·have hx:B.links[i]? =some B.links[i]:=lG (by omega);have hy:B.links[j]? =some B.links[j]:=lG hj;have:=(adT _ _ _ h3).2 i j _ _ hij hx hy;unfold Bk.one Bk.two;rw[hx,hy];exact this
 ·cases h3
theorem adU (B:Bk) {a b:Int} {j:Nat} (hj:B.one j=a/\B.two j=b): ∀n i,i<=j->j<i+n->0<=B.directFrom a b n i/\B.directFrom a b n i<=j
 | 0,i,_,h=>by omega
 |n+1,i,h1,h2=>by
  unfold Bk.directFrom;by_cases e:B.one i=a/\B.two i=b
  ·rw[if_pos e];omega
  ·rw[if_neg e];have:i≠j:=fun e2=>e (e2▸hj);exact adU B hj n (i+1) (by omega) (by omega)
theorem aes {B:Bk} (h:B.alarm=0) (a b:Int) {j:Nat} (h1:B.spokes<=j) (h2:j<B.links.length):(B.one j=a/\B.two j=b)↔B.direct a b=(j:Int):=by
 constructor
 ·intro hj;have hl:=adU B hj (B.links.length-B.spokes) B.spokes h1 (by omega);have he:=FP (B:=B) (a:=a) (b:=b) hl.1;have hd:B.direct a b=B.directFrom a b (B.links.length-B.spokes) B.spokes:=rfl;rw[<-hd] at hl;by_cases e:B.direct a b=(j:Int)
  ·exact e
  ·exact absurd ⟨he.1.trans hj.1.symm,he.2.trans hj.2.symm⟩ (aeb h (i:=(B.direct a b).toNat) (by omega) h2)
 ·intro e;have:=FP (B:=B) (a:=a) (b:=b) (by omega);rw[e,Int.toNat_natCast] at this;exact this
def adr (B:Bk) (T:Nat->Int) (a b:Int):Int:=if 0<=B.direct a b then T (B.direct a b).toNat else 0
def incr (B:Bk) (T:Nat->Int) (n a b:Int) (k:Nat):Int:=
 if a=0 then (if (k:Int)=b-1 then n else 0)
 else (if B.direct a b=k then min n (adr B T a b) else 0)+if (k:Int)=a-1\/(k:Int)=b-1 then n-min n (adr B T a b) else 0
def adu (B:Bk) (T:Nat->Int) (c:Nat->Int) (k:Nat):Nat->Int
 | 0=>0
 |i+1=>adu B T c k i+incr B T (c i) (B.pone i) (B.ptwo i) k
theorem aeu {B:Bk} {T:Nat->Int} (hT: ∀k,0<=T k) (a b:Int) (k:Nat):incr B T 0 a b k=0:=by
 have:0<=adr B T a b:=by unfold adr;split;exact hT _;omega
 unfold incr;rw[Int.min_eq_left this];simp
theorem aev {B:Bk} {T:Nat->Int} (n:Nat) (a b:Int) (k:Nat):incr B T ((n:Int)+1) a b k=incr B T n a b k+
  if a=0 then (if (k:Int)=b-1 then 1 else 0) else if (n:Int)<adr B T a b then (if B.direct a b=k then 1 else 0) else if (k:Int)=a-1\/(k:Int)=b-1 then 1 else 0:=by
 unfold incr;generalize adr B T a b=f;generalize B.direct a b=d;by_cases ha:a=0
 ·simp only[if_pos ha];split<;>omega
 ·simp only[if_neg ha];by_cases h1:(n:Int)<f
  ·rw[if_pos h1,Int.min_eq_left (by omega),Int.min_eq_left (by omega)]
   split<;>split<;>omega
  ·rw[if_neg h1,Int.min_eq_right (by omega),Int.min_eq_right (by omega)]
   split<;>split<;>omega
theorem adV {B:Bk} (hB:B.Fine) (T c:Nat->Int) {k:Nat} (hk:B.spokes<=k): ∀n,n<=B.pairs.length->(∀i,i<n->B.pone i≠0->B.direct (B.pone i) (B.ptwo i)≠k)->B.loadTo T c n k=0
 | 0,_,_=>rfl
 |n+1,hn,h=>by
  have he:=hB.ends n (by omega);have ht:B.spokes=B.towns.length-1:=rfl;unfold Bk.loadTo;rw[Om B T _ _ _ _ (by omega) (by omega),if_neg (fun⟨h1,h2⟩=>h n (by omega) h1 h2)];exact adV hB T c hk n (by omega) fun i hi=>h i (by omega)
theorem aec {B:Bk} (hB:B.Fine) (T:Nat->Int) {n a b:Int} (hn:0<=n) (out:Nat->Int) (k:Nat) (hab:0<=a/\a<b/\b<B.towns.length) (h0:a≠0->B.direct a b=k->out k=0):B.go T n a b out k=out k+incr B T n a b k:=by
 have hd:=pF B hB a b;have ht:B.spokes=B.towns.length-1:=rfl;unfold Bk.go incr adr;by_cases ha:a=0
 ·rw[if_pos ha,if_pos ha];by_cases e:k=(b-1).toNat
  ·rw[<-e,BZ,if_pos (by omega)]
  ·rw[dQ _ _ e,if_neg (by omega)];omega
 ·rw[if_neg ha,if_neg ha];by_cases hk:0<=B.direct a b
  ·simp only[if_pos hk];generalize min n (T (B.direct a b).toNat)=m at *;by_cases e1:k=(b-1).toNat
   ·rw[<-e1,BZ,dQ _ _ (by omega),dQ _ _ (by omega),if_neg (by omega),if_pos (by omega)];omega
   ·rw[dQ _ _ e1];by_cases e2:k=(a-1).toNat
    ·rw[<-e2,BZ,dQ _ _ (by omega),if_neg (by omega),if_pos (by omega)];omega
    ·rw[dQ _ _ e2];by_cases e3:k=(B.direct a b).toNat
     ·rw[<-e3,BZ,h0 ha (by omega),if_pos (by omega),if_neg (by omega)];omega
     ·rw[dQ _ _ e3,if_neg (by omega),if_neg (by omega)];omega
  ·simp only[if_neg hk];rw[Int.min_eq_right hn];by_cases e1:k=(b-1).toNat
   ·rw[<-e1,BZ,dQ _ _ (by omega),if_pos (show (k:Int)=a-1\/(k:Int)=b-1 by omega)]
    split<;>omega
   ·rw[dQ _ _ e1];by_cases e2:k=(a-1).toNat
    ·rw[<-e2,BZ,if_pos (show (k:Int)=a-1\/(k:Int)=b-1 by omega)]
     split<;>omega
    ·rw[dQ _ _ e2,if_neg (show ¬((k:Int)=a-1\/(k:Int)=b-1) by omega)]
     split<;>omega
theorem adW {B:Bk} (hB:B.Fine) (hA:B.alarm=0) (T c:Nat->Int) (hc: ∀i,i<B.pairs.length->0<=c i) (k:Nat): ∀n,n<=B.pairs.length->adu B T c k n=B.loadTo T c n k
 | 0,_=>rfl
 |n+1,hn=>by
  have he:=hB.ends n (by omega);have ht:B.spokes=B.towns.length-1:=rfl;unfold adu Bk.loadTo;rw[adW hB hA T c hc k n (by omega),aec hB T (hc n (by omega)) _ k ⟨he.1,he.2.1,he.2.2⟩ fun ha hd=> ?_];have hdb:=pF B hB (B.pone n) (B.ptwo n);refine adV hB T c (by omega) n (by omega) fun i hi h1 h2=> ?_;have d1:=FP (B:=B) (a:=B.pone i) (b:=B.ptwo i) (by omega);have d2:=FP (B:=B) (a:=B.pone n) (b:=B.ptwo n) (by omega);rw[h2] at d1;rw[hd] at d2;exact Ol hA hi (by omega) ⟨d1.1.symm.trans d2.1,d1.2.symm.trans d2.2⟩
theorem aeQ {B:Bk} {T:Nat->Int} (hT: ∀k,0<=T k) {n:Int} (hn:0<=n) (a b:Int) (k:Nat):0<=incr B T n a b k/\incr B T n a b k<=2*n:=by
 have:0<=adr B T a b:=by unfold adr;split;exact hT _;omega
 unfold incr
 split<;>split<;>(try split)<;>omega
theorem aeJ {B:Bk} {T c:Nat->Int} (hT: ∀k,0<=T k) (hc: ∀k,0<=c k/\c k<=1000) (k:Nat): ∀n:Nat,0<=adu B T c k n/\adu B T c k n<=2000*n
 | 0=>by unfold adu;omega
 |n+1=>by
  have h1:=aeJ (B:=B) hT hc k n;have h2:=aeQ (B:=B) hT (hc n).1 (B.pone n) (B.ptwo n) k;have h3:=hc n;unfold adu;omega
def ownB (B:Bk) (a b:Int) (j:Nat):Int:=if 0<=B.direct a b/\B.direct a b<j then B.direct a b else -1
def aeB (B:Bk) (T:Nat->Int) (a b:Int) (j:Nat):Int:=if 0<=B.direct a b/\B.direct a b<j then T (B.direct a b).toNat else 0
theorem c34 (V:BkV) (B:Bk) (xs cs:List Int) (xa ca:Option Addr) (xc cc k:Nat) (w:World) (hs:aB w V B) (hA:B.alarm=0) (hx:SlI w xa xs) (hxl:xs.length=B.links.length) (hc:SlI w ca cs) (hcl:cs.length=B.pairs.length) (hxb: ∀j,0<=trk xs j/\trk xs j<=1000) (hcb: ∀j,0<=trk cs j/\trk cs j<=1000):
  Calls Tryd.prog 34 #[V.val B,.slice xa B.links.length xc,.slice ca B.pairs.length cc,.int .i64 (k:Int)] w fun e w'=>e= .returned (.int .i64 (adu B (trk xs) (trk cs) k B.pairs.length))/\Below w.heap.size w w':=by
 obtain⟨ta,la,pa,tc,lc,pc⟩:=V;have hB:=(gY hA).fine;have hll:=hB.links;have htt:=hB.towns;have hnp:=hB.pairs;have HE:=lH hB.ends;have HD:Hid (∀a b,B.direct a b= -1\/((B.towns.length:Int)-1<=B.direct a b/\B.direct a b<B.links.length)):=lH fun a b=>by
  have:=pF B hB a b;unfold Bk.spokes at this;omega
 have HDI:Hid (∀(a b:Int) (j:Nat),B.towns.length-1<=j->j<B.links.length->((B.one j=a/\B.two j=b)↔B.direct a b=(j:Int))):=lH fun a b j h1 h2=>aes hA a b h1 h2;have HP:Hid (∀i,i<B.pairs.length-> ∃b o sa sn sc,pa=some ⟨b,o,none⟩/\ ∀u,Below w.heap.size w u->u.cell? ⟨b,o+i*3,none⟩=some (.int .i64 (B.pone i))/\u.cell? ⟨b,o+i*3+1,none⟩=some (.int .i64 (B.ptwo i))/\u.cell? ⟨b,o+i*3+2,none⟩=some (.slice sa sn sc)):=lH fun i hi=>by
  have hL:B.pairs[i]? =some B.pairs[i]:=lG hi;have hpo:B.pone i=B.pairs[i].one:=by unfold Bk.pone;rw[hL];rfl
  have hpt:B.ptwo i=B.pairs[i].two:=by unfold Bk.ptwo;rw[hL];rfl
  obtain⟨b,o,sa,sc,e,h1,h2,h3,_⟩:=hs.pairs i _ hL;refine⟨b,o,sa,_,sc,e,fun u hu=>⟨?_, ?_,cell_below hu h3 (nR _)⟩⟩
  ·rw[hpo];exact cell_below hu h1 (nR _)
  ·rw[hpt];exact cell_below hu h2 (nR _)
 have HL:Hid (∀i,i<B.links.length-> ∃b o,la=some ⟨b,o,none⟩/\ ∀u,Below w.heap.size w u->u.cell? ⟨b,o+i*3,none⟩=some (.int .i64 (B.one i))/\u.cell? ⟨b,o+i*3+1,none⟩=some (.int .i64 (B.two i))):=lH fun i hi=>by
  have hL:B.links[i]? =some B.links[i]:=lG hi;have hpo:B.one i=B.links[i].one:=by unfold Bk.one;rw[hL];rfl
  have hpt:B.two i=B.links[i].two:=by unfold Bk.two;rw[hL];rfl
  obtain⟨b,o,sa,sc,e,h1,h2,h3,_⟩:=hs.links i _ hL;refine⟨b,o,e,fun u hu=>⟨?_, ?_⟩⟩
  ·rw[hpo];exact cell_below hu h1 (nR _)
  ·rw[hpt];exact cell_below hu h2 (nR _)
 have HSl: ∀{sa:Option Addr} {l:List Int},SlI w sa l-> ∀i,i<l.length-> ∃b o,sa=some ⟨b,o,none⟩/\ ∀u,Below w.heap.size w u->u.cell? ⟨b,o+i,none⟩=some (.int .i64 (trk l i)):=fun {sa l} h i hi=>by
  have e:l[i]? =some (trk l i):=by
   rw[lG hi];unfold trk;rw[lD,lG hi];rfl
  obtain⟨b,o,e,h0⟩:=h i _ e;exact⟨b,o,e,fun u hu=>cell_below hu h0 (nR _)⟩
 have HX:=lH (HSl hx);have HC:=lH (HSl hc);rw[hxl] at HX;rw[hcl] at HC;have HXb:=lH hxb;have HCb:=lH hcb;have HLb:=lH (aeJ (B:=B) (fun k=>(hxb k).1) hcb k);have HLs:Hid (∀i,adu B (trk xs) (trk cs) k (i+1)=adu B (trk xs) (trk cs) k i+incr B (trk xs) (trk cs i) (B.pone i) (B.ptwo i) k):=lH fun _=>rfl;have HI0:Hid (∀a b,incr B (trk xs) 0 a b k=0):=lH fun a b=>aeu (fun k=>(hxb k).1) a b k;have HIs:Hid (∀(n:Nat) a b,_):=lH fun n a b=>aev (B:=B) (T:=trk xs) n a b k;have HIb:Hid (∀(n:Nat) a b,_):=lH fun n a b=>aeQ (B:=B) (fun k=>(hxb k).1) (Int.natCast_nonneg n) a b k;have HOB:Hid (∀a b j,ownB B a b j=if 0<=B.direct a b/\B.direct a b<(j:Nat) then B.direct a b else -1):=lH fun _ _ _=>rfl;have HFB:Hid (∀a b j,aeB B (trk xs) a b j=if 0<=B.direct a b/\B.direct a b<(j:Nat) then trk xs (B.direct a b).toNat else 0):=lH fun _ _ _=>rfl;have HF:Hid (∀a b,adr B (trk xs) a b=if 0<=B.direct a b then trk xs (B.direct a b).toNat else 0):=lH fun _ _=>rfl;clear hs hx hc hxb hcb hA hB HSl;unfold Bk.spokes at hll;generalize trk xs=T at *;generalize trk cs=C at *;go_enter Tryd.func34,Tryd.ntmps34
 go_wp2_with fail
 generalize hWd:w.alloc (.cells #[.int .i64 B.hours,.slice ta B.towns.length tc,.slice la B.links.length lc,.slice pa B.pairs.length pc] 26)=W;have HBW:Hid (Below w.heap.size w W):=lH (by subst hWd;exact(Below.refl _ _).alloc (nR _) _);have HW:Hid (W.cell? ⟨w.heap.size,1,none⟩=some (.slice ta B.towns.length tc)/\W.cell? ⟨w.heap.size,2,none⟩=some (.slice la B.links.length lc)/\W.cell? ⟨w.heap.size,3,none⟩=some (.slice pa B.pairs.length pc)):=lH (by subst hWd;exact⟨by go_simp,by go_simp,by go_simp⟩);clear hWd
 go_loopw [9,10] (fun n i wr=> ∃q:Nat,q<=B.pairs.length/\i= .int .i64 (q:Int)/\n= .int .i64 (adu B T C k q)/\Below W.heap.size W wr) (fun _ i _=>B.pairs.length-(intOf i).toNat)
 case atStart=>exact⟨0,Nat.zero_le _,rfl,rfl,Below.refl _ _⟩
 case round=>
  obtain⟨q,hq,rfl,rfl,hb⟩:=hrel;have Hb:=lH hb;clear hb;obtain⟨k1,k2,k3⟩:=HW.out;replace k1:=cell_below Hb.out k1 (nR _);replace k2:=cell_below Hb.out k2 (nR _);replace k3:=cell_below Hb.out k3 (nR _);by_cases hlt:q<B.pairs.length
  ·obtain⟨pb,po,sa,sn,sc,e,hp⟩:=HP.out q hlt;subst e;obtain⟨p0,p1,p2⟩:=hp wr (HBW.out.trans (Hb.out.mono HBW.out.size));obtain⟨e1,e2,e3⟩:=HE.out q hlt;have hcq:=HCb.out q;obtain⟨cb,co,e,hcc⟩:=HC.out q hlt;subst e;have Hcc:=lH hcc;have Hld:=lH (HLs.out q);have hlb:=HLb.out q;generalize B.pone q=a at *;generalize B.ptwo q=b at *;generalize hs0:adu B T C k q=s at *;generalize hc0:C q=c at *;clear hs0 hc0 hp hcc;have hz0:=wBk _ _ k1;have hz1:=wBk _ _ p0
   go_wp2_with fail
   generalize hW2:wr.alloc (.cells #[.int .i64 a,.int .i64 b,.slice sa sn sc] 67)=W2;have HB2:Hid (Below W.heap.size W W2):=lH (by subst hW2;exact Hb.out.alloc Hb.out.size _);have HZ:Hid (W2.cell? ⟨wr.heap.size,0,none⟩=some (.int .i64 a)/\W2.cell? ⟨wr.heap.size,1,none⟩=some (.int .i64 b)):=lH (by subst hW2;exact⟨by go_simp,by go_simp⟩);clear hW2 k1 k2 k3 p0 p1 p2 Hb hz0 hz1;generalize wr.heap.size=z at *;obtain⟨wA,hwA⟩: ∃wA,wA=wr:=⟨wr,rfl⟩;subst hwA;have HFree:=lH (HF.out a b);have HD':=lH (HD.out a b);have HDI':=lH (HDI.out a b);have HOB':=lH (HOB.out a b);have HFB':=lH (HFB.out a b);clear HF HD HDI HOB HFB;have Hpub:=lH (And.intro hll (And.intro htt hnp))
   go_loopw [12,13,14] (fun f o i wr=> ∃j:Nat,j<=B.links.length/\B.towns.length-1<=j/\i= .int .i64 (j:Int)/\f= .int .i64 (aeB B T a b j)/\o= .int .i64 (ownB B a b j)/\Below W2.heap.size W2 wr) (fun _ _ i _=>B.links.length-(intOf i).toNat)
   case atStart=>
    refine⟨B.towns.length-1,hll.1,nR _,by go_num, ?_, ?_,Below.refl _ _⟩
    ·rw[HFB'.out,if_neg (by have:=HD'.out;omega)]
    ·rw[HOB'.out,if_neg (by have:=HD'.out;omega)]
   case round=>
    obtain⟨j,hj,hj0,rfl,rfl,rfl,hb⟩:=hrel;have Hb:=lH hb;clear hb;obtain⟨k1,k2,k3⟩:=HW.out;replace k2:=cell_below (HB2.out.trans (Hb.out.mono HB2.out.size)) k2 (nR _);obtain⟨z0,z1⟩:=HZ.out;replace z0:=cell_below Hb.out z0 (nR _);replace z1:=cell_below Hb.out z1 (nR _);clear k1 k3;have HBw:Hid (Below w.heap.size w wr):=lH (HBW.out.trans ((HB2.out.trans (Hb.out.mono HB2.out.size)).mono HBW.out.size));by_cases hjl:j<B.links.length
    ·obtain⟨yb,yo,e,hl⟩:=HL.out j hjl;subst e;obtain⟨l0,l1⟩:=hl wr HBw.out;obtain⟨xb,xo,e,hxx⟩:=HX.out j hjl;subst e;have x0:=hxx wr HBw.out;have hdi:=HDI'.out j hj0 hjl;have Hof:=lH (And.intro (HOB'.out j) (And.intro (HOB'.out (j+1)) (And.intro (HFB'.out j) (HFB'.out (j+1)))));have HTj:Hid (T (j:Int).toNat=T j):=lH (by rw[Int.toNat_natCast]);clear hl hxx;generalize B.one j=p at *;generalize B.two j=r at *;have Hdi:=lH hdi;clear hdi;have hjli:(j:Int)<(B.links.length:Int):=by omega
     by_cases h12:p=a/\r=b
     ·obtain⟨h1,h2⟩:=h12;have hd:B.direct a b=(j:Int):=Hdi.out.1 ⟨h1,h2⟩;have R1:T j=aeB B T a b (j+1):=by rw[Hof.out.2.2.2,hd,if_pos (by omega),HTj.out]
      have R2:(j:Int)=ownB B a b (j+1):=by rw[Hof.out.2.1,hd,if_pos (by omega)]
      have HR:=lH (And.intro R1 R2);clear R1 R2 hd;subst h1 h2;generalize aeB B T p r j=f0 at *;generalize ownB B p r j=o0 at *;go_wp2
      go_region
      go_wp2
      go_region
      go_wp2;go_roundw
      case rel=>exact⟨j+1,by omega,by omega,by go_num,by rw[<-HR.out.1],by rw[<-HR.out.2],Hb.out.drew.drew⟩
      case measure=>simp[intOf];omega
     ·have hd: ¬B.direct a b=(j:Int):=fun e=>h12 (Hdi.out.2 e);have R1:aeB B T a b j=aeB B T a b (j+1):=by
       rw[Hof.out.2.2.1,Hof.out.2.2.2];by_cases h:0<=B.direct a b/\B.direct a b<(j:Int)
       ·rw[if_pos h,if_pos (by omega)]
       ·rw[if_neg h,if_neg (by omega)]
      have R2:ownB B a b j=ownB B a b (j+1):=by
       rw[Hof.out.1,Hof.out.2.1];by_cases h:0<=B.direct a b/\B.direct a b<(j:Int)
       ·rw[if_pos h,if_pos (by omega)]
       ·rw[if_neg h,if_neg (by omega)]
      have HR:=lH (And.intro R1 R2);clear R1 R2 hd Hof;generalize aeB B T a b j=f0 at *;generalize ownB B a b j=o0 at *;by_cases h1:p=a
      ·have hb2:(r==b)=false:=beq_eq_false_iff_ne.2 fun e=>h12 ⟨h1,e⟩;subst h1;clear h12;go_wp2
       go_region
       go_wp2;go_roundw
       case rel=>exact⟨j+1,by omega,by omega,by go_num,by rw[<-HR.out.1],by rw[<-HR.out.2],Hb.out.drew⟩
       case measure=>simp[intOf];omega
      ·have hb1:(p==a)=false:=beq_eq_false_iff_ne.2 h1;clear h12;go_wp2
       go_region
       go_wp2;go_roundw
       case rel=>exact⟨j+1,by omega,by omega,by go_num,by rw[<-HR.out.1],by rw[<-HR.out.2],Hb.out.drew⟩
       case measure=>simp[intOf];omega
    ·have R1:aeB B T a b j=adr B T a b:=by
      rw[HFB'.out,HFree.out];have:=HD'.out;by_cases h:0<=B.direct a b
      ·rw[if_pos h,if_pos (by omega)]
      ·rw[if_neg h,if_neg (by omega)]
     have R2:ownB B a b j=B.direct a b:=by
      rw[HOB'.out];have:=HD'.out;by_cases h:0<=B.direct a b
      ·rw[if_pos (by omega)]
      ·rw[if_neg (by omega)];omega
     have hF0:0<=adr B T a b/\adr B T a b<=1000:=by
      rw[HFree.out]
      split
      ·exact HXb.out _
      ·omega
     have hd:=HD'.out;rw[R1,R2];have HI0':=lH (HI0.out a b);have HIs':Hid (∀n:Nat,_):=lH fun n=>HIs.out n a b;have HIb':Hid (∀n:Nat,_):=lH fun n=>HIb.out n a b;have HLb':=lH (HLb.out q);have HWC:Hid (∀u,Below W2.heap.size W2 u->u.cell? ⟨w.heap.size,3,none⟩=some (.slice (some ⟨pb,po,none⟩) B.pairs.length pc)):=lH fun u hu=>cell_below (HB2.out.trans (hu.mono HB2.out.size)) HW.out.2.2 (nR _);clear R1 R2 HFB' HOB' HFree HD' HI0 HIs HIb HLb HX HL HDI' z0 z1;generalize adr B T a b=F at *;generalize B.direct a b=d at *
     go_wp2_with fail
     clear k2;obtain⟨wB,hwB⟩: ∃wB,wB=wr:=⟨wr,rfl⟩;subst hwB
     go_loopw [9,12,15] (fun n f i wr=> ∃m:Nat,(m:Int)<=c/\i= .int .i64 (m:Int)/\n= .int .i64 (s+incr B T m a b k)/\(∃f',f= .int .i64 f'/\(a≠0->f'=max 0 (F-m)))/\Below W2.heap.size W2 wr) (fun _ _ i _=>c.toNat-(intOf i).toNat)
     case atStart=>exact⟨0,hcq.1,rfl,by rw[show ((0 :Nat):Int)=0 from rfl,HI0'.out,Int.add_zero],⟨_,rfl,fun _=>by omega⟩,Hb.out⟩
     case round=>
      obtain⟨m,hm,rfl,rfl,⟨f',rfl,hf⟩,hb⟩:=hrel;have Hb9:=lH hb;have Hf:=lH hf;have x0:=Hcc.out wr (HBW.out.trans ((HB2.out.trans (hb.mono HB2.out.size)).mono HBW.out.size));obtain⟨z0,z1⟩:=HZ.out;replace z0:=cell_below hb z0 (nR _);replace z1:=cell_below hb z1 (nR _);have hib:=HIb'.out m;have Hinc:=lH (HIs'.out m);have h1m:((m+1 :Nat):Int)=(m:Int)+1:=by omega
      have Hm1:=lH h1m;clear hb hf h1m;by_cases hmc:(m:Int)<c
      ·generalize hyv:incr B T m a b k=y at *;clear hyv;have hsy:0<=s+y/\s+y<=100000:=by have:=HLb'.out;omega
       have Hs1:Hid (s+y+1=s+(y+1)):=lH (by omega);clear hlb hib;by_cases ha:a=0
       ·subst ha;rw[if_pos rfl] at Hinc;have hw1:IntKind.wrap .i64 (b-1)=b-1:=IntWalk.i64_in _ (by omega);by_cases hkb:(k:Int)=b-1
        ·rw[if_pos hkb] at Hinc;have hkb':((k:Int)==b-1)=true:=beq_iff_eq.2 hkb;have Hkb:=lH hkb;clear hkb;go_wp2;go_roundw
         case rel=>exact⟨m+1,by omega,by go_num,by rw[Hm1.out,Hinc.out,Hs1.out],⟨_,rfl,fun h=>absurd rfl h⟩,Hb9.out⟩
         case measure=>simp[intOf];omega
        ·rw[if_neg hkb,Int.add_zero] at Hinc;have hkb':((k:Int)==b-1)=false:=beq_eq_false_iff_ne.2 hkb;clear hkb;go_wp2;go_roundw
         case rel=>exact⟨m+1,by omega,by go_num,by rw[Hm1.out,Hinc.out],⟨_,rfl,fun h=>absurd rfl h⟩,Hb9.out⟩
         case measure=>simp[intOf];omega
       ·rw[if_neg ha] at Hinc;have hf:=Hf.out ha;have ha':(a==0)=false:=beq_eq_false_iff_ne.2 ha;by_cases hF:(m:Int)<F
        ·rw[if_pos hF] at Hinc;have hfp:0<f'/\f'<=1000:=by omega
         have Hfm:Hid (f'=F-m):=lH (by omega);clear hf Hf;by_cases hdk:d=(k:Int)
         ·rw[if_pos hdk] at Hinc;have Hdk:=lH hdk;have hkd:((k:Int)==d)=true:=beq_iff_eq.2 hdk.symm;clear hdk;go_wp2;go_roundw
          case rel=>exact⟨m+1,by omega,by go_num,by rw[Hm1.out,Hinc.out,Hs1.out],⟨_,rfl,fun _=>by rw[Hm1.out,Hfm.out];omega⟩,Hb9.out⟩
          case measure=>simp[intOf];omega
         ·rw[if_neg hdk,Int.add_zero] at Hinc;have hkd:((k:Int)==d)=false:=beq_eq_false_iff_ne.2 (Ne.symm hdk);clear hdk;go_wp2;go_roundw
          case rel=>exact⟨m+1,by omega,by go_num,by rw[Hm1.out,Hinc.out],⟨_,rfl,fun _=>by rw[Hm1.out,Hfm.out];omega⟩,Hb9.out⟩
          case measure=>simp[intOf];omega
        ·rw[if_neg hF] at Hinc;have hf0:f'=0:=by omega
         have HmF:=lH hF;subst hf0;clear hf Hf hF;have hw1:IntKind.wrap .i64 (b-1)=b-1:=IntWalk.i64_in _ (by omega);have hw2:IntKind.wrap .i64 (a-1)=a-1:=IntWalk.i64_in _ (by omega);by_cases hka:(k:Int)=a-1
         ·rw[if_pos (.inl hka)] at Hinc;have Hka:=lH hka;have hka':((k:Int)==a-1)=true:=beq_iff_eq.2 hka;clear hka;go_wp2;go_roundw
          case rel=>exact⟨m+1,by omega,by go_num,by rw[Hm1.out,Hinc.out,Hs1.out],⟨_,rfl,fun _=>by have:=HmF.out;rw[Hm1.out];omega⟩,Hb9.out⟩
          case measure=>simp[intOf];omega
         ·have hka':((k:Int)==a-1)=false:=beq_eq_false_iff_ne.2 hka;by_cases hkb:(k:Int)=b-1
          ·rw[if_pos (.inr hkb)] at Hinc;have Hkb:=lH hkb;have hkb':((k:Int)==b-1)=true:=beq_iff_eq.2 hkb;clear hkb hka;go_wp2;go_roundw
           case rel=>exact⟨m+1,by omega,by go_num,by rw[Hm1.out,Hinc.out,Hs1.out],⟨_,rfl,fun _=>by have:=HmF.out;rw[Hm1.out];omega⟩,Hb9.out⟩
           case measure=>simp[intOf];omega
          ·rw[if_neg (fun h=>h.elim hka hkb),Int.add_zero] at Hinc;have hkb':((k:Int)==b-1)=false:=beq_eq_false_iff_ne.2 hkb;clear hkb hka;go_wp2;go_roundw
           case rel=>exact⟨m+1,by omega,by go_num,by rw[Hm1.out,Hinc.out],⟨_,rfl,fun _=>by have:=HmF.out;rw[Hm1.out];omega⟩,Hb9.out⟩
           case measure=>simp[intOf];omega
      ·have hmc2:(m:Int)=c:=by omega
       rw[hmc2];have Hfin:=lH Hld.out.symm;clear hmc2 Hinc hib hlb;rw[Hfin.out];have hqq:q+1<=B.pairs.length:=by omega
       go_wp2;go_roundw
       case rel=>exact⟨q+1,hqq,by go_num,rfl,HB2.out.trans (Hb9.out.mono HB2.out.size)⟩
       case measure=>simp[intOf];omega
  ·have hqe:q=B.pairs.length:=by omega
   have Hqe:=lH hqe;have Hbk:=lH (HBW.out.trans (Hb.out.mono HBW.out.size));clear hqe;go_wp2;go_ret;exact⟨by rw[Hqe.out]<;>rfl,Hbk.out⟩
def aey (B:Bk) (most:Bool) (h n:Nat):List Int:=(List.range n).map (B.call most h)
theorem aeY (B:Bk) (most:Bool) (h n:Nat):ints (aey B most h (n+1))=ints (aey B most h n)++ [.int .i64 (B.call most h n)]:=by
 unfold aey ints;rw[List.range_succ];simp
theorem c36 (V:BkV) (B:Bk) (most:Bool) (h:Nat) (w:World) (hs:aB w V B) (hG:Good B) (hh:(h:Int)<B.hours):
  Calls Tryd.prog 36 #[V.val B,.int .i64 (h:Int),.bool most] w fun e w'=> ∃v,e= .returned v/\w'.ownsRow w.heap.size 3 1 v B.pairs.length (ints (aey B most h B.pairs.length))/\Below w.heap.size w w':=by
 obtain⟨ta,la,pa,tc,lc,pc⟩:=V;have hnp:=hG.fine.pairs;have HC:Hid (∀k,k<B.pairs.length-> ∃b o sb so n sc lo up,pa=some ⟨b,o,none⟩/\(∀u,Below w.heap.size w u->u.cell? ⟨b,o+k*3+2,none⟩=some (.slice (some ⟨sb,so,none⟩) n sc)/\u.cell? ⟨sb,so+h*2,none⟩=some (.int .i64 lo)/\u.cell? ⟨sb,so+h*2+1,none⟩=some (.int .i64 up))/\h<n/\B.call most h k=if most then up else lo):=lH fun k hk=>by
  have hx:B.pairs[k]? =some B.pairs[k]:=lG hk;obtain⟨b,o,sa,sc,e,_,_,h3,h4,_⟩:=hs.pairs k _ hx;have hc:=(hG.fine.calls k _ hx).1;have hlt:h<B.pairs[k].calls.length:=by omega
  have hy:B.pairs[k].calls[h]? =some B.pairs[k].calls[h]:=lG hlt;obtain⟨sb,so,e2,g0,g1⟩:=h4 h _ hy;subst e2;refine⟨b,o,sb,so,_,sc,_,_,e,fun u hu=>⟨cell_below hu h3 (nR _),cell_below hu g0 (nR _),cell_below hu g1 (nR _)⟩,hlt, ?_⟩;unfold Bk.call;rw[hx];simp only[Option.bind_some,hy]
 clear hs hG hh;obtain⟨i0,hi,hz0,hz1,hz2⟩:=info_parts info3;go_enter Tryd.func36,Tryd.ntmps36
 go_wp2_with fail
 generalize hWd:w.alloc (.cells #[.int .i64 B.hours,.slice ta B.towns.length tc,.slice la B.links.length lc,.slice pa B.pairs.length pc] 26)=W;have HBW:Hid (Below w.heap.size w W):=lH (by subst hWd;exact(Below.refl _ _).alloc (nR _) _);have HW3:Hid (W.cell? ⟨w.heap.size,3,none⟩=some (.slice pa B.pairs.length pc)):=lH (by subst hWd;go_simp);clear hWd
 go_loopw [7,8] (fun v i wr=> ∃k:Nat,k<=B.pairs.length/\i= .int .i64 (k:Int)/\wr.ownsRow W.heap.size 3 1 v k (ints (aey B most h k))/\Below W.heap.size W wr) (fun _ i _=>B.pairs.length-(intOf i).toNat)
 case atStart=>exact⟨0,Nat.zero_le _,rfl,World.ownsRow_nil _ _ _ _,Below.refl _ _⟩
 case round=>
  obtain⟨k,hk,rfl,hown,hb⟩:=hrel;have Hown:=lH hown;have Hb:=lH hb;clear hown hb;have k3:=cell_below Hb.out HW3.out (nR _);by_cases hlt:k<B.pairs.length
  ·obtain⟨b,o,sb,so,n,sc,lo,up,e,hcs,hn,hval⟩:=HC.out k hlt;subst e;obtain⟨c0,c1,c2⟩:=hcs wr (HBW.out.trans (Hb.out.mono HBW.out.size));have z0:=wBk _ _ c0;have z1:=wBk _ _ c1;have hhn:(h:Int)<(n:Int):=by omega
   have Hval:=lH hval;have Hsn:=lH (aeY B most h k);clear hcs hval;generalize B.call most h k=y at *;have hkp:(k:Int)<(B.pairs.length:Int):=by omega
   have HB9:=lH (Hb.out.alloc Hb.out.size (.cells #[.int .i64 lo,.int .i64 up] 53));have HO9:=lH (Hown.out.alloc (.cells #[.int .i64 lo,.int .i64 up] 53));have HN:Hid (∀(z:Int) (j:Nat) (u:Value),([.int .i64 z]:List Value)[j]? =some u->((wr.alloc (.cells #[.int .i64 lo,.int .i64 up] 53)).alloc (.cells #[.int .i64 z] 3)).cell? ((⟨wr.heap.size+1,0,none⟩:Addr).add j)=some u):=lH fun z j u hj=>by
    match j,hj with
    | 0,hj=>cases hj;simp only[Addr.add];go_simp
   have H1c:Hid (∀(z:Int),∀u∈([.int .i64 z]:List Value),u.oneCell'=true):=lH fun z=>by simp[Value.oneCell']
   have Hb63:Hid (k+1<=maxLen):=lH (by unfold maxLen;omega);have Hbb:Hid ((k+1)*8<=140737488355328):=lH (by omega);have Hsz:Hid (W.heap.size<=wr.heap.size+1+1):=lH (by have:=Hb.out.size;omega)
   cases most
   all_goals
    simp only[Bool.false_eq_true,if_true,if_false] at Hval;have hy:=Hval.out;subst hy
    go_wp2_with (at_builtin;refine wpList_append_own _ rfl _ _ 27 rfl W.heap.size 3 i0 (.int .i64 0) 1 8 Tryd.underlying27 hi hz0 hz1 hz2 rfl (by decide) _ _ _ rfl (HO9.out.alloc _) ⟨wr.heap.size+1,0,none⟩ 1 1 [.int .i64 y] rfl rfl (HN.out y) (H1c.out y) Hb63.out Hbb.out (by simp only[World.size_alloc];exact Hsz.out) ?_)
    intro v' w4 hown' hgrow _;have R:=Bo HB9.out HO9.out hown' hgrow;rw[<-Hsn.out] at R;have HR:=lH R;clear hown' hgrow R;go_wp2;go_roundw
    case rel=>exact⟨k+1,by omega,by go_num,HR.out.1,HR.out.2⟩
    case measure=>simp[intOf];omega
  ·have hke:k=B.pairs.length:=by omega
   rw[hke] at Hown;have Hbk:=lH (HBW.out.trans (Hb.out.mono HBW.out.size));clear hke;go_wp2;go_ret;exact⟨_,rfl,Hown.out.base HBW.out.size,Hbk.out⟩
theorem aeZ {B:Bk} {T:Nat->Int} (hT: ∀k,0<=T k) {n m:Int} (h:n<=m) (a b:Int) (k:Nat):incr B T n a b k<=incr B T m a b k:=by
 have:0<=adr B T a b:=by unfold adr;split;exact hT _;omega
 unfold incr
 split<;>split<;>(try split)<;>omega
theorem aeF {B:Bk} {T c d:Nat->Int} (hT: ∀k,0<=T k) (h: ∀i,i<B.pairs.length->c i<=d i) (k:Nat): ∀n,n<=B.pairs.length->adu B T c k n<=adu B T d k n
 | 0,_=>Int.le_refl _
 |n+1,hn=>by
  have h1:=aeF hT h k n (by omega);have h2:=aeZ (B:=B) hT (h n (by omega)) (B.pone n) (B.ptwo n) k;unfold adu;omega
theorem aeE {B:Bk} (hA:B.alarm=0) (T:Nat->Int) (most:Bool) (h k:Nat):B.inn T most h k=adu B T (B.call most h) k B.pairs.length:=
 (adW (gY hA).fine hA T _ (fun i _=>(Gj B (gY hA).fine most h i).1) k _ (nR _)).symm
theorem aeK {B:Bk} (hB:B.Fine) (h i:Nat):B.call false h i<=B.call true h i:=by
 unfold Bk.call
 cases hp:B.pairs[i]? with
 |none=>simp
 |some p=>
  simp only[Option.bind_some]
  cases hc:p.calls[h]? with
  |none=>simp
  |some x=>
   have:=(hB.calls i p hp).2 h x hc;simp;omega
theorem ae0 {B:Bk} (hA:B.alarm=0) {T:Nat->Int} (hT: ∀k,0<=T k) (h k:Nat):B.inn T false h k<=B.inn T true h k:=by
 rw[aeE hA,aeE hA];exact aeF hT (fun i _=>aeK (gY hA).fine h i) k _ (nR _)
theorem ae1 {B:Bk} (hA:B.alarm=0) {T:Nat->Int} (hT: ∀k,0<=T k) (h:Nat) (hl:B.lackIn T true h<0):B.lackIn T false h<0:=by
 rw[vC] at hl ⊢;intro j hj;have h1:=hl j hj;have h2:=ae0 hA hT h j;omega
theorem ae2 {B:Bk} (hA:B.alarm=0) {T:Nat->Int} (hT: ∀k,0<=T k):aQ B T B.hours.toNat 0 1=1↔ ∀h,h<B.hours.toNat->B.lackIn T true h<0:=by
 rw[Og];exact⟨fun h k hk=>(h.2 k (Nat.zero_le _) (by omega)).2,fun h=>⟨rfl,fun k _ hk=>⟨ae1 hA hT k (h k (by omega)),h k (by omega)⟩⟩⟩
theorem aeR {l T:Nat->Int}: ∀n i,0<=fJ l T n i-> ∃r:Nat,fJ l T n i=(r:Int)/\i<=r/\r<i+n/\T r<l r/\ ∀j,i<=j->j<r->l j<=T j
 | 0,i,h=>by simp[fJ] at h
 |n+1,i,h=>by
  unfold fJ at h ⊢;by_cases h1:T i<l i
  ·rw[if_pos h1];exact⟨i,rfl,nR _,by omega,h1,fun j a b=>by omega⟩
  ·rw[if_neg h1] at h ⊢;obtain⟨r,e,a,b,c,d⟩:=aeR n (i+1) h;refine⟨r,e,by omega,by omega,c,fun j p q=> ?_⟩;by_cases e2:j=i
   ·subst e2;omega
   ·exact d j (by omega) q
theorem ae3 {B:Bk} {T:Nat->Int}: ∀n i,(iW B T n i= .tuple #[.int .i64 0,.int .i64 0,.int .i64 0,.int .i64 10]/\ ∀h,i<=h->h<i+n->B.lackIn T true h<0)\/ ∃h k:Nat,i<=h/\h<i+n/\k<B.spokes/\iW B T n i= .tuple #[.int .i64 (h:Int),.int .i64 (k:Int),.int .i64 (B.inn T true h k-T k),.int .i64 0]/\T k<B.inn T true h k/\(∀g,i<=g->g<h->B.lackIn T true g<0)/\ ∀j,j<k->B.inn T true h j<=T j
 | 0,i=> .inl ⟨rfl,fun h a b=>by omega⟩
 |n+1,i=>by
  unfold iW;by_cases h1:0<=B.lackIn T true i
  ·rw[if_pos h1];have h2:=h1;unfold Bk.lackIn Bk.lack at h2;obtain⟨r,e,_,b,c,d⟩:=aeR _ _ h2;have e2:B.lackIn T true i=(r:Int):=e;refine .inr ⟨i,r,nR _,by omega,by omega, ?_,c,fun g a b=>by omega,fun j hj=>d j (Nat.zero_le _) hj⟩;rw[e2,Int.toNat_natCast]
  ·rw[if_neg h1]
   rcases ae3 (B:=B) (T:=T) n (i+1) with ⟨e,h⟩ |⟨h,k,a,b,c,d,e,f,g⟩
   ·refine .inl ⟨e,fun h' a b=> ?_⟩;by_cases e2:h'=i
    ·subst e2;omega
    ·exact h h' (by omega) (by omega)
   ·refine .inr ⟨h,k,by omega,by omega,c,d,e,fun g' p q=> ?_,g⟩;by_cases e2:g'=i
    ·subst e2;omega
    ·exact f g' (by omega) q
theorem ae4 (B:Bk) (most:Bool) (h:Nat) {i:Nat} (hi:i<B.pairs.length):trk (aey B most h B.pairs.length) i=B.call most h i:=by
 unfold trk aey;rw[lD,List.getElem?_map,List.getElem?_range hi];rfl
theorem aeS {B:Bk} {T c d:Nat->Int} (h: ∀i,i<B.pairs.length->c i=d i) (k:Nat): ∀n,n<=B.pairs.length->adu B T c k n=adu B T d k n
 | 0,_=>rfl
 |n+1,hn=>by
  unfold adu;rw[aeS h k n (by omega),h n (by omega)]
theorem afq {B:Bk} (hA:B.alarm=0) (T:Nat->Int) (most:Bool) (h k:Nat):adu B T (trk (aey B most h B.pairs.length)) k B.pairs.length=B.inn T most h k:=by
 rw[aeE hA];exact aeS (fun i hi=>ae4 B most h hi) k _ (nR _)
theorem ad2 (a b:Int) (x y:List Int):cmpL (a::x) (b::y)<0↔a<b\/a=b/\cmpL x y<0:=by
 simp only[cmpL,mF];by_cases h1:a<b
 ·simp[h1]
 ·by_cases h2:b<a
  ·have:a≠b:=by omega
   simp[h1,h2,this]
  ·have:a=b:=by omega
   simp[this]
theorem adM: ∀(x y z:List Int),cmpL x y<0->cmpL y z<0->cmpL x z<0
 |_,[],[],_,h=>by simp[cmpL] at h
 |_,_::_,[],_,h=>by simp[cmpL] at h
 | [],[],_::_,h,_=>by simp[cmpL] at h
 |_::_,[],_::_,h,_=>by simp[cmpL] at h
 | [],_::_,_::_,_,_=>by simp[cmpL]
 |a::x,b::y,c::z,h1,h2=>by
  rw[ad2] at *
  rcases h1 with h1 |⟨h1,k1⟩
  ·rcases h2 with h2 |⟨h2,k2⟩
   ·exact .inl (by omega)
   ·exact .inl (by omega)
  ·rcases h2 with h2 |⟨h2,k2⟩
   ·exact .inl (by omega)
   ·exact .inr ⟨by omega,adM x y z k1 k2⟩
theorem adN: ∀l:List Int,cmpL l l=0
 | []=>rfl
 |a::l=>by simp[cmpL,mF,adN l]
theorem ady {x y z:List Int×Int} (h1:qR x y<0) (h2:qR y z<0):qR x z<0:=by
 unfold qR at *;have:=adM x.1 y.1 z.1
 split at h1<;>split at h2<;>split
 all_goals first |exact this h1 h2 |omega
theorem adB (x:List Int×Int): ¬qR x x<0:=by
 unfold qR;rw[if_pos rfl,adN];omega
theorem adH: ∀(l:List (List Int×Int)) (c b:List Int×Int),l.foldl least1 (some c)=some b->(b=c\/(qR b c<0/\b∈l))/\ ∀x∈l,¬qR x b<0
 | [],c,b,h=>⟨.inl (by simpa using h.symm),fun x hx=>(by cases hx)⟩
 |y::l,c,b,h=>by
  rw[List.foldl_cons] at h;unfold least1 at h;dsimp only at h;by_cases hc:qR y c<0
  ·rw[if_pos hc] at h;obtain⟨h1,h2⟩:=adH l y b h
   rcases h1 with e |⟨e,hm⟩
   ·subst e;refine⟨.inr ⟨hc,List.mem_cons_self ..⟩,fun x hx=> ?_⟩
    rcases List.mem_cons.1 hx with e |e
    ·subst e;exact adB _
    ·exact h2 x e
   ·refine⟨.inr ⟨ady e hc,List.mem_cons_of_mem _ hm⟩,fun x hx=> ?_⟩
    rcases List.mem_cons.1 hx with e2 |e2
    ·subst e2;exact fun h=>adB _ (ady h e)
    ·exact h2 x e2
  ·rw[if_neg hc] at h;obtain⟨h1,h2⟩:=adH l c b h;refine⟨h1.imp id fun⟨a,b⟩=>⟨a,List.mem_cons_of_mem _ b⟩,fun x hx=> ?_⟩
   rcases List.mem_cons.1 hx with e2 |e2
   ·subst e2
    rcases h1 with e |⟨e,_⟩
    ·subst e;exact hc
    ·exact fun h=>hc (ady h e)
   ·exact h2 x e2
theorem ad3: ∀{l:List (List Int×Int)} {b:List Int×Int},iC l=some b->b∈l/\ ∀x∈l,¬qR x b<0
 | [],b,h=>by cases h
 |y::l,b,h=>by
  obtain⟨h1,h2⟩:=adH l y b h
  rcases h1 with e |⟨e,hm⟩
  ·subst e;refine⟨List.mem_cons_self .., fun x hx=> ?_⟩
   rcases List.mem_cons.1 hx with e |e
   ·subst e;exact adB _
   ·exact h2 x e
  ·refine⟨List.mem_cons_of_mem _ hm,fun x hx=> ?_⟩
   rcases List.mem_cons.1 hx with e2 |e2
   ·subst e2;exact fun h=>adB _ (ady h e)
   ·exact h2 x e2
theorem adC (may:Int->Bool): ∀(m:Nat) (t x:List Int),x∈moreL may m t↔ ∃d:List Int,x=t++d/\d.length=m/\ ∀(i:Nat) (y:Int),d[i]? =some y->0<=y/\y<=iY may (t.length+i)
 | 0,t,x=>by
  unfold moreL;rw[List.mem_singleton];refine⟨fun h=>⟨[],by simpa using h,rfl,fun i y h=>by simp at h⟩,fun⟨d,h1,h2,_⟩=> ?_⟩;rw[h1,List.length_eq_zero_iff.1 h2,List.append_nil]
 |m+1,t,x=>by
  unfold moreL;rw[List.mem_flatMap];constructor
  ·rintro⟨n,hn,hx⟩;obtain⟨d,h1,h2,h3⟩:=(adC may m _ x).1 hx;refine⟨(n:Int)::d,by rw[h1];simp,by simp[h2],fun i y hy=> ?_⟩
   cases i with
   |zero=>
    have:=List.mem_range.1 hn;simp at hy;simp only[Nat.add_zero];omega
   |succ i=>
    have:=h3 i y (by simpa using hy);rwa [List.length_append,List.length_singleton,Nat.add_assoc,Nat.add_comm 1 i] at this
  ·rintro⟨d,h1,h2,h3⟩
   cases d with
   |nil=>cases h2
   |cons a d=>
    have h0:=h3 0 a rfl;rw[Nat.add_zero] at h0;refine⟨a.toNat,List.mem_range.2 (by omega),(adC may m _ x).2 ⟨d, ?_,by simpa using h2,fun i y hy=> ?_⟩⟩
    ·rw[h1,Int.toNat_of_nonneg h0.1];simp
    ·have:=h3 (i+1) y (by simpa using hy);rwa [List.length_append,List.length_singleton,Nat.add_assoc,Nat.add_comm 1 i]
theorem adO (B:Bk) (may:Int->Bool):aC B may∈oP B may/\ ∀x∈oP B may,¬qR x (aC B may)<0:=by
 have hne:oP B may≠ []:=by
  unfold oP;intro h;exact MP may _ _ (List.map_eq_nil_iff.1 h)
 obtain⟨b,hb⟩:=ZH _ hne;have:aC B may=b:=by unfold aC;rw[hb];rfl
 rw[this];exact ad3 hb
theorem aer {x y:List Int×Int} (h: ¬qR x y<0):y.2<=x.2:=by
 unfold qR at h
 split at h<;>omega
def Dir (B:Bk) (may:Int->Bool) (t:List Int):Prop:=t∈moreL may (B.links.length-B.spokes) (List.replicate B.spokes 0)
theorem ad4 {B:Bk} (hl:B.spokes<=B.links.length) {may:Int->Bool} {t:List Int} (h:Dir B may t):t.length=B.links.length/\(∀x∈t,0<=x/\x<=5)/\(∀k,k<B.spokes->trk t k=0)/\ ∀k,B.spokes<=k->trk t k<=iY may k:=by
 obtain⟨d,h1,h2,h3⟩:=(adC may _ _ t).1 h;have htop: ∀k,iY may k<=5:=fun k=>by unfold iY;split<;>omega
 refine⟨by rw[h1,List.length_append,List.length_replicate,h2];omega,fun x hx=> ?_,fun k hk=> ?_,fun k hk=> ?_⟩
 ·rw[h1] at hx
  rcases List.mem_append.1 hx with e |e
  ·rw[(List.mem_replicate.1 e).2];omega
  ·obtain⟨i,hi,rfl⟩:=List.getElem_of_mem e;have:=h3 i _ (lG hi);have:=htop ((List.replicate B.spokes (0 :Int)).length+i);omega
 ·unfold trk;rw[h1,lD,List.getElem?_append_left (by simpa using hk),List.getElem?_replicate,if_pos hk];rfl
 ·unfold trk;rw[h1,lD,List.getElem?_append_right (by simpa using hk),List.length_replicate]
  cases e:d[k-B.spokes]? with
  |none=>simp
  |some y=>
   have:=h3 _ y e;rw[List.length_replicate,show B.spokes+(k-B.spokes)=k by omega] at this;exact this.2
theorem adP {B:Bk} {may:Int->Bool} {x:List Int×Int}:x∈oP B may↔ ∃t,Dir B may t/\iy B t=x:=List.mem_map
theorem adD {B:Bk} {t:List Int} (k:Nat):trk (jC B t) k=if k<B.spokes then aZ B (trk t) k else trk t k:=by
 unfold jC trk;rw[lD];by_cases h:k<B.spokes
 ·rw[if_pos h,List.getElem?_append_left (by rw[EM];exact h)];unfold ku;rw[List.getElem?_map,List.getElem?_range h];rfl
 ·rw[if_neg h,List.getElem?_append_right (by rw[EM];omega),EM,List.getElem?_drop,lD,show B.spokes+(k-B.spokes)=k by omega]
theorem adQ {B:Bk} (hB:B.Fine) {T T':Nat->Int} (h: ∀k,B.spokes<=k->k<B.links.length->min 5 (T' k)=min 5 (T k)) (most:Bool) (hr:Nat):B.inn T' most hr=B.inn T most hr:=by
 refine BN B T T' _ (fun i hi h0 hk=> ?_) _ (nR _);have hd:=pF B hB (B.pone i) (B.ptwo i);have hc:=Gj B hB most hr i;have:=h (B.direct (B.pone i) (B.ptwo i)).toNat (by omega) (by omega);omega
theorem ad5 {B:Bk} (hB:B.Fine) {T T':Nat->Int} (h: ∀k,B.spokes<=k->k<B.links.length->min 5 (T' k)=min 5 (T k)) (j:Nat):aZ B T' j=aZ B T j:=
 FY B j _ fun _ _=>congrFun (adQ hB h true _) j
theorem ad6 {B:Bk} (hB:B.Fine) {t:List Int}:aQ B (trk (jC B t)) B.hours.toNat 0 1=1:=by
 rw[Og];have hs: ∀m h,B.inn (trk (jC B t)) m h=B.inn (trk t) m h:=fun m h=>adQ hB (fun k h1 h2=>by rw[adD,if_neg (by omega)]) m h;refine⟨rfl,fun h _ hh=> ?_⟩;have key: ∀m,B.lackIn (trk (jC B t)) m h<0:=fun m=>by
  rw[vC,hs];intro j hj;rw[adD,if_pos hj];have h1:=BO B (trk t) j _ h (show h<B.hours.toNat by omega);have h2:=Oq hB (trk t) m h hj;unfold aZ;omega
 exact⟨key false,key true⟩
theorem adI: ∀(x y:List Int),x.length=y.length->(∀k,trk x k<=trk y k)->cmpL x y<=0/\(x≠y->cmpL x y<0)
 | [],[],_,_=>⟨by simp[cmpL],fun h=>absurd rfl h⟩
 | [],_::_,h,_=>by cases h
 |_::_,[],h,_=>by cases h
 |a::x,b::y,h,hk=>by
  have h0:a<=b:=hk 0;obtain⟨h1,h2⟩:=adI x y (by simpa using h) fun k=>hk (k+1);simp only[cmpL,mF];by_cases e:a<b
  ·simp[e]
  ·have e2:a=b:=by omega
   subst e2;simp only[Int.lt_irrefl,if_false,if_true,List.cons.injEq,true_and,ne_eq];exact⟨h1,h2⟩
def tried (B:Bk) (xs:List Int):List Int:=List.replicate B.spokes 0++(xs.drop B.spokes).map fun y=>min 5 y
theorem adR {B:Bk} {xs:List Int} (k:Nat):trk (tried B xs) k=if k<B.spokes then 0 else min 5 (trk xs k):=by
 unfold tried trk;rw[lD,lD];by_cases h:k<B.spokes
 ·rw[if_pos h,List.getElem?_append_left (by simpa using h),List.getElem?_replicate,if_pos h];rfl
 ·rw[if_neg h,List.getElem?_append_right (by simpa using h),List.length_replicate,List.getElem?_map,List.getElem?_drop,show B.spokes+(k-B.spokes)=k by omega]
  cases xs[k]? with
  |none=>rfl
  |some y=>rfl
theorem ad7 {B:Bk} {xs:List Int} (hx:xs.length=B.links.length) (hb:dN xs=false) {may:Int->Bool} (hm: ∀k,B.spokes<=k->may (k:Int)=false->trk xs k=0):Dir B may (tried B xs):=by
 refine(adC may _ _ _).2 ⟨_,rfl,by rw[List.length_map,List.length_drop,hx],fun i y hy=> ?_⟩;rw[List.getElem?_map,List.getElem?_drop] at hy;rw[List.length_replicate];have hp:=lZ hb (B.spokes+i);have hm':=hm (B.spokes+i) (by omega);have e:trk xs (B.spokes+i)=(xs[B.spokes+i]?).getD 0:=by unfold trk;rw[lD]
 rw[e] at hp hm'
 cases e2:xs[B.spokes+i]? with
 |none=>rw[e2] at hy;cases hy
 |some z=>
  rw[e2] at hy hp hm';simp only[Option.map_some,Option.some.injEq,Option.getD_some] at hy hp hm';subst hy;unfold iY
  split
  ·omega
  ·rename_i hf;have:=hm' (Bool.eq_false_iff.2 hf);omega
def adt (B:Bk) (xs:List Int):Int:=fZ B (trk xs) B.links.length
theorem adJ {B:Bk} (hl:B.spokes<=B.links.length) {t:List Int} (ht:t.length=B.links.length):(iy B t).2=adt B (jC B t):=by
 unfold iy adt;dsimp only;rw[MS ht hl]
theorem ad8 {B:Bk} (hB:B.Fine) {xs:List Int} (hx:xs.length=B.links.length) (hb:dN xs=false) (hc:aQ B (trk xs) B.hours.toNat 0 1=1) (k:Nat):trk (jC B (tried B xs)) k<=trk xs k:=by
 have htl:(tried B xs).length=B.links.length:=by
  unfold tried;rw[List.length_append,List.length_replicate,List.length_map,List.length_drop,hx];have:=hB.links.1;omega
 rw[adD];have hp:=lZ hb k;by_cases h:k<B.spokes
 ·rw[if_pos h,ad5 hB (T:=trk xs) fun k h1 _=>by rw[adR,if_neg (by omega)];omega];rw[Og] at hc;exact FW B (trk xs) k hp.1 _ fun h' hh=>(vC B (trk xs) true h').1 (hc.2 h' (Nat.zero_le _) (by omega)).2 k h
 ·rw[if_neg h,adR,if_neg h];omega
theorem ad9 {B:Bk} (hB:B.Fine) {xs:List Int} (hx:xs.length=B.links.length):(tried B xs).length=B.links.length:=by
 unfold tried;rw[List.length_append,List.length_replicate,List.length_map,List.length_drop,hx];have:=hB.links.1;omega
theorem adS {B:Bk} (hG:Good B) {may:Int->Bool} {xs:List Int} (hx:xs.length=B.links.length) (hb:dN xs=false) (hm: ∀k,B.spokes<=k->may (k:Int)=false->trk xs k=0) (hc:aQ B (trk xs) B.hours.toNat 0 1=1): ¬qR (xs,adt B xs) (aC B may)<0:=by
 have hB:=hG.fine;have hd:=ad7 hx hb hm;have htl:=ad9 hB hx;have hle:=ad8 hB hx hb hc;have hmin:=(adO B may).2 _ (adP.2 ⟨_,hd,rfl⟩);have hcost:(iy B (tried B xs)).2<=adt B xs:=by
  rw[adJ hB.links.1 htl];exact abZ hG hle _
 intro h;by_cases e:jC B (tried B xs)=xs
 ·refine hmin ?_;have:iy B (tried B xs)=(xs,adt B xs):=by
   have h2:=adJ hB.links.1 htl;rw[e] at h2;exact Prod.ext e h2
  rwa [this]
 ·refine hmin (ady ?_ h);have hcm:=(adI _ _ (by rw[MS htl hB.links.1,hx]) hle).2 e;unfold qR
  split
  ·exact hcm
  ·dsimp only at *; omega
theorem aea {B:Bk} (hG:Good B) (may:Int->Bool): ∃t,Dir B may t/\t.length=B.links.length/\(∀x∈t,0<=x/\x<=5)/\(aC B may).1=jC B t/\(aC B may).2=adt B (jC B t):=by
 obtain⟨t,hd,he⟩:=adP.1 (adO B may).1;obtain⟨h1,h2,_⟩:=ad4 hG.fine.links.1 hd;exact⟨t,hd,h1,h2,by rw[<-he];rfl,by rw[<-he];exact adJ hG.fine.links.1 h1⟩
theorem adE {xs:List Int} {k:Nat} (h:k<xs.length):xs[k]? =some (trk xs k):=by
 rw[lG h];unfold trk;rw[lD,lG h];rfl
theorem adX: ∀(x y:List Int),iq x y=true↔cmpL x y<0
 | [],[]=>by simp[iq,cmpL]
 | [],_::_=>by simp[iq,cmpL]
 |_::_,[]=>by simp[iq,cmpL]
 |a::x,b::y=>by
  have ih:=adX x y;simp only[iq,cmpL,mF];by_cases h1:a<b
  ·have:a≠b:=by omega
   simp[h1,this]
  ·by_cases h2:b<a
   ·have:a≠b:=by omega
    simp[h1,h2,this]
   ·have:a=b:=by omega
    subst this;simpa using ih
theorem aed {x y:List Int} (h: ¬cmpL x y<0):iq x y=false:=by
 cases e:iq x y with
 |false=>rfl
 |true=>exact absurd ((adX x y).1 e) h
def adw (B:Bk) (k o i:Nat):Prop:=(B.pone i=k+1/\B.ptwo i=o)\/(B.ptwo i=k+1/\B.pone i=o)
open Classical in
noncomputable def met (B:Bk) (k o n:Nat):Int:=if ∃i,i<n/\adw B k o i then 1 else 0
theorem ads (B:Bk) (k o n:Nat):0<=met B k o n/\met B k o n<=1:=by unfold met;split<;>omega
theorem adF (B:Bk) (k o n:Nat):met B k o n<=met B k o (n+1):=by
 unfold met
 split
 ·rename_i h;obtain⟨i,h1,h2⟩:=h;rw[if_pos ⟨i,by omega,h2⟩];omega
 ·split<;>omega
theorem aee {B:Bk} (hB:B.Fine) (hA:B.alarm=0) {k o n:Nat} (hn:n<B.pairs.length) (h:adw B k o n):met B k o n=0/\met B k o (n+1)=1:=by
 have h1: ¬ ∃i,i<n/\adw B k o i:=by
  rintro⟨i,hi,h2⟩;have e1:=hB.ends n hn;have e2:=hB.ends i (by omega);refine Ol hA hi hn ?_;unfold adw at h h2;omega
 have h3: ∃i,i<n+1/\adw B k o i:=⟨n,by omega,h⟩;unfold met;rw[if_neg h1,if_pos h3];exact⟨rfl,rfl⟩
theorem adY {B:Bk} (hB:B.Fine) (hA:B.alarm=0) {T c:Nat->Int} (hT: ∀k,0<=T k) (hc: ∀i,i<B.pairs.length->0<=c i/\c i<=5) {k:Nat} (hk:k<B.spokes): ∀n,n<=B.pairs.length->adu B T c k n<=5*((if k+1=0 then 0 else met B k 0 n)+(if k+1=1 then 0 else met B k 1 n)+(if k+1=2 then 0 else met B k 2 n)+if k+1=3 then 0 else met B k 3 n)
 | 0,_=>by
  unfold adu;have h0:=ads B k 0 0;have h1:=ads B k 1 0;have h2:=ads B k 2 0;have h3:=ads B k 3 0
  split<;>split<;>split<;>split<;>omega
 |n+1,hn=>by
  have ih:=adY hB hA hT hc hk n (by omega);have he:=hB.ends n (by omega);have hcn:=hc n (by omega);have ht:=hB.towns;have hs:B.spokes=B.towns.length-1:=rfl;have hd:=pF B hB (B.pone n) (B.ptwo n);have hf:0<=adr B T (B.pone n) (B.ptwo n):=by unfold adr;split;exact hT _;omega
  have m0:=adF B k 0 n;have m1:=adF B k 1 n;have m2:=adF B k 2 n;have m3:=adF B k 3 n;have hinc:incr B T (c n) (B.pone n) (B.ptwo n) k<=if B.pone n=k+1\/B.ptwo n=k+1 then 5 else 0:=by
   unfold incr;by_cases ha:B.pone n=0
   ·rw[if_pos ha];split<;>split<;>omega
   ·rw[if_neg ha,if_neg (show ¬B.direct (B.pone n) (B.ptwo n)=k by omega)]
    split<;>split<;>omega
  unfold adu;by_cases hm:B.pone n=k+1\/B.ptwo n=k+1
  ·rw[if_pos hm] at hinc;obtain⟨o,ho,ho2,ho3⟩: ∃o:Nat,adw B k o n/\o<4/\o≠k+1:=by
    rcases hm with e |e
    ·exact⟨(B.ptwo n).toNat,.inl ⟨e,by omega⟩,by omega,by omega⟩
    ·exact⟨(B.pone n).toNat,.inr ⟨e,by omega⟩,by omega,by omega⟩
   have hnew:=aee hB hA (show n<B.pairs.length by omega) ho;obtain rfl |rfl |rfl |rfl:o=0\/o=1\/o=2\/o=3:=by omega
   all_goals
    simp only[hnew.1,hnew.2] at *
    split<;>split<;>split<;>split<;>simp_all<;>omega
  ·rw[if_neg hm] at hinc
   split<;>split<;>split<;>split<;>simp_all<;>omega
theorem aef {B:Bk} (hB:B.Fine) (hA:B.alarm=0) {T:Nat->Int} (hT: ∀k,0<=T k) (most:Bool) (h:Nat) {k:Nat} (hk:k<B.spokes):B.inn T most h k<=15:=by
 have h1:=adY hB hA hT (c:=B.call most h) (fun i _=>Gj B hB most h i) hk _ (nR _);rw[adW hB hA T _ (fun i _=>(Gj B hB most h i).1) k _ (nR _)] at h1;have h0:=ads B k 0 B.pairs.length;have h2:=ads B k 1 B.pairs.length;have h3:=ads B k 2 B.pairs.length;have h4:=ads B k 3 B.pairs.length;have ht:=hB.towns;have hs:B.spokes=B.towns.length-1:=rfl;unfold Bk.inn Bk.load;have:k=0\/k=1\/k=2:=by omega
 rcases this with rfl |rfl |rfl<;>simp at h1<;>omega
theorem aeg {B:Bk} (hB:B.Fine) (hA:B.alarm=0) {t:List Int} (ht: ∀x∈t,0<=x/\x<=5) (k:Nat):0<=trk (jC B t) k/\trk (jC B t) k<=15:=by
 have h0: ∀k,0<=trk t k/\trk t k<=5:=MV ht (by decide);rw[adD]
 split
 ·rename_i hk;exact⟨rM B _ k _,FW B _ k (by omega) _ fun h _=>aef hB hA (fun k=>(h0 k).1) true h hk⟩
 ·have:=h0 k;omega
theorem adZ {xs:List Int} (h: ∀k,k<xs.length->0<=trk xs k/\trk xs k<=20):dN xs=false:=by
 unfold dN;rw[List.any_eq_false];intro x hx;obtain⟨i,hi,rfl⟩:=List.getElem_of_mem hx;have h1:=h i hi;have h2:=adE hi;rw[lG hi] at h2;simp only[Option.some.injEq] at h2;rw[<-h2] at h1;simp[btw];omega
theorem adK {B:Bk} (hA:B.alarm=0) {may:Int->Bool}:aH B (aC B may).1 true=0/\(∀k,btw (trk (aC B may).1 k) 0 20=true)/\aQ B (trk (aC B may).1) B.hours.toNat 0 1=1/\(aC B may).2=fZ B (trk (aC B may).1) B.links.length:=by
 have hG:=gY hA;have hB:=hG.fine;obtain⟨t,hd,hl,ht,e1,e2⟩:=aea hG may;rw[e1,e2];have hb:=aeg hB hA ht;have hfl:=MS hl hB.links.1;refine⟨vG hA hfl (adZ fun k _=>by have:=hb k;omega),fun k=> ?_,ad6 hB,rfl⟩;have:=hb k;simp[btw];omega
theorem aeh {B:Bk} (hA:B.alarm=0) {k:Nat} (hk:k<B.links.length) (h0:trk (aC B aT).1 k≠0) (hl:(aC B aT).1.length=B.links.length):
  aH B ((aC B aT).1.set k (trk (aC B aT).1 k-1)) true=0/\aQ B (trk ((aC B aT).1.set k (trk (aC B aT).1 k-1))) B.hours.toNat 0 1≠1/\fZ B (trk ((aC B aT).1.set k (trk (aC B aT).1 k-1))) B.links.length<=(aC B aT).2:=by
 have hG:=gY hA;have hB:=hG.fine;obtain⟨h1,h2,h3,h4⟩:=adK (may:=aT) hA;have h2': ∀k,0<=trk (aC B aT).1 k/\trk (aC B aT).1 k<=20:=fun k=>fK (h2 k);have hfirst:= @adS B hG aT;generalize hxs:(aC B aT).1=xs at *;have hle: ∀j,trk (xs.set k (trk xs k-1)) j<=trk xs j:=fun j=>by
  rw[aci (by omega)];unfold fup
  split
  ·subst_vars;omega
  ·exact Int.le_refl _
 have hyl:(xs.set k (trk xs k-1)).length=B.links.length:=by rw[List.length_set];exact hl
 have hb:dN (xs.set k (trk xs k-1))=false:=adZ fun j _=>by
  rw[aci (by omega)];have:=h2' j;have:=h2' k;unfold fup
  split<;>omega
 have hcost:=abZ hG hle B.links.length;refine⟨vG hA hyl hb,fun hc=> ?_,by omega⟩;refine hfirst hyl hb (fun _ _ h=>by cases h) hc ?_;have hne:xs.set k (trk xs k-1)≠xs:=fun e=>by
  have e2:=congrArg (fun l=>trk l k) e;rw[aci (by omega),BZ] at e2;omega
 have hcm:=(adI _ _ (by rw[hyl,hl]) hle).2 hne;unfold qR adt;rw[hxs];dsimp only
 split
 ·exact hcm
 ·omega
end Go.Proofs.YtaikibfkggglgaaDoor
