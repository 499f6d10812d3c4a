/- A part of the proof of a law; no conditions of its own. -/
import Derived.Test.YtfiiffnbggnkfaaDoorProg
import Derived.WalkKit
import Derived.WalkSpells
import Derived.WalkLawsBesides
import Derived.Deep.RegionHeld3
import Derived.Deep.QuietTactic
import Derived.BigQuiet
import Derived.StillTactics
import Derived.Lib.Hide
import Derived.Laws.IdiomStrings
open Go renaming Addr→aD, Calls→cF, Value→vL, World→wD
open Go.RowKit renaming Below→bX
open Go.IntKind renaming i64→qi
open Go.Value renaming int→iN, slice→sL, pointer→pN
open Go.Ending renaming returned→rT
set_option maxRecDepth 100000
open Nat renaming le_refl→nR
open Go.Lib renaming hid→lH
open Go.RowKit.Below renaming refl→bR
open Go.Proofs.Tryd renaming prog→tP
open List renaming getElem?_eq_getElem→lG
open List renaming getElem?_eq_some_iff→lS
open Go.World renaming block_lt_of_cell?→wBk
set_option maxHeartbeats 4000000
namespace Go.Rent
structure Lnk where
 one:Int
 two:Int
 steps:List (Int×Int)
structure Pr where
 one:Int
 two:Int
 calls:List (Int×Int)
structure Bk where
 hours:Int
 towns:List ByteArray
 links:List Lnk
 pairs:List Pr
def fup (f:Nat->Int) (i:Nat) (v:Int):Nat->Int:=fun j=>if j=i then v else f j
@[simp] theorem BZ (f:Nat->Int) (i:Nat) (v:Int):fup f i v i=v:=by simp[fup]
theorem dQ (f:Nat->Int) {i j:Nat} (v:Int) (h:j≠i):fup f i v j=f j:=by simp[fup,h]
def Bk.spokes (B:Bk):Nat:=B.towns.length-1
def Bk.one (B:Bk) (i:Nat):Int:=((B.links[i]?).map (·.one)).getD 0
def Bk.two (B:Bk) (i:Nat):Int:=((B.links[i]?).map (·.two)).getD 0
def Bk.directFrom (B:Bk) (a b:Int):Nat->Nat->Int
 | 0,_=> -1
 |n+1,i=>if B.one i=a/\B.two i=b then i else B.directFrom a b n (i+1)
def Bk.direct (B:Bk) (a b:Int):Int:=B.directFrom a b (B.links.length-B.spokes) B.spokes
def Bk.go (B:Bk) (T:Nat->Int) (n:Int) (a b:Int) (out:Nat->Int):Nat->Int:=
 if a=0 then fup out (b-1).toNat (out (b-1).toNat+n)
 else
  let k:=B.direct a b
  let m:=if 0<=k then min n (T k.toNat) else 0
  let out1:=if 0<=k then fup out k.toNat m else out
  let out2:=fup out1 (a-1).toNat (out1 (a-1).toNat+(n-m))
  fup out2 (b-1).toNat (out2 (b-1).toNat+(n-m))
def Bk.pone (B:Bk) (i:Nat):Int:=((B.pairs[i]?).map (·.one)).getD 0
def Bk.ptwo (B:Bk) (i:Nat):Int:=((B.pairs[i]?).map (·.two)).getD 0
def Bk.loadTo (B:Bk) (T:Nat->Int) (c:Nat->Int):Nat->(Nat->Int)
 | 0=>fun _=>0
 |i+1=>B.go T (c i) (B.pone i) (B.ptwo i) (B.loadTo T c i)
def Bk.load (B:Bk) (T:Nat->Int) (c:Nat->Int):Nat->Int:=B.loadTo T c B.pairs.length
def Bk.call (B:Bk) (most:Bool) (h i:Nat):Int:=match (B.pairs[i]?).bind (·.calls[h]?) with
 |some x=>if most then x.2 else x.1
 |none=>0
def Bk.inn (B:Bk) (T:Nat->Int) (most:Bool) (h:Nat):Nat->Int:=B.load T (B.call most h)
def fJ (l T:Nat->Int):Nat->Nat->Int
 | 0,_=> -1
 |n+1,i=>if T i<l i then i else fJ l T n (i+1)
def Bk.lack (B:Bk) (l T:Nat->Int):Int:=fJ l T B.spokes 0
def Bk.lackIn (B:Bk) (T:Nat->Int) (most:Bool) (h:Nat):Int:=B.lack (B.inn T most h) T
structure Bk.Fine (B:Bk):Prop where
 hours:1<=B.hours/\B.hours<=3
 towns:2<=B.towns.length/\B.towns.length<=4
 links:B.spokes<=B.links.length/\B.links.length<=6
 pairs:B.pairs.length<=6
 ends: ∀i,i<B.pairs.length->0<=B.pone i/\B.pone i<B.ptwo i/\B.ptwo i<B.towns.length
 calls: ∀(i:Nat) (p:Pr),B.pairs[i]? =some p->(p.calls.length:Int)=B.hours/\ ∀(h:Nat) (x:Int×Int),p.calls[h]? =some x->0<=x.1/\x.1<=x.2/\x.2<=5
theorem Gi (B:Bk) (a b:Int): ∀(n i:Nat),B.directFrom a b n i= -1\/((i:Int)<=B.directFrom a b n i/\B.directFrom a b n i<(i:Int)+n)
 | 0,_=> .inl rfl
 |n+1,i=>by
  unfold Bk.directFrom
  split
  ·exact .inr ⟨by omega,by omega⟩
  ·rcases Gi B a b n (i+1) with h |h
   ·exact .inl h
   ·exact .inr ⟨by omega,by omega⟩
theorem pF (B:Bk) (hB:B.Fine) (a b:Int):B.direct a b= -1\/((B.spokes:Int)<=B.direct a b/\B.direct a b<B.links.length):=by
 have h1:=hB.links.1
 rcases Gi B a b (B.links.length-B.spokes) B.spokes with h |h
 ·exact .inl h
 ·refine .inr ⟨h.1, ?_⟩;have:=h.2;unfold Bk.direct;omega
theorem Gj (B:Bk) (hB:B.Fine) (most:Bool) (h i:Nat):0<=B.call most h i/\B.call most h i<=5:=by
 unfold Bk.call
 cases hp:B.pairs[i]? with
 |none=>simp
 |some p=>
  simp only[Option.bind_some]
  cases hc:p.calls[h]? with
  |none=>simp
  |some x=>
   have:=(hB.calls i p hp).2 h x hc
   cases most<;>simp<;>omega
theorem OL (B:Bk) (T:Nat->Int) (n a b:Int) (out:Nat->Int) (m:Int) (hT: ∀k,0<=T k) (hn:0<=n/\n<=5) (ho: ∀j,0<=out j/\out j<=m) (hab:a≠0->1<=a/\a<b): ∀j,0<=B.go T n a b out j/\B.go T n a b out j<=m+5:=by
 intro j;unfold Bk.go;by_cases ha:a=0
 ·rw[if_pos ha];unfold fup;have h1:=ho j;have h2:=ho (b-1).toNat
  split<;>omega
 ·rw[if_neg ha];obtain⟨ha1,hab⟩:=hab ha;have hne:(a-1).toNat≠(b-1).toNat:=by omega
  by_cases hk:0<=B.direct a b
  ·simp only[if_pos hk];generalize (B.direct a b).toNat=k;have hTk:=hT k;have hm:0<=min n (T k)/\min n (T k)<=n:=by omega
   generalize min n (T k)=q at *;have h1: ∀j,0<=fup out k q j/\fup out k q j<=max m 5/\(j≠k->fup out k q j=out j)/\(j=k->fup out k q j=q):=fun j=>by
    have:=ho j;by_cases e:j=k
    ·subst e;rw[BZ];exact⟨by omega,by omega,fun h=>absurd rfl h,fun _=>rfl⟩
    ·rw[dQ out q e];exact⟨by omega,by omega,fun _=>rfl,fun h=>absurd h e⟩
   have ho0:=ho 0;generalize fup out k q=o1 at *;have a1:=h1 (a-1).toNat;have a2:=h1 (b-1).toNat;have a3:=h1 j;have b1:=ho (a-1).toNat;have b2:=ho (b-1).toNat;have b3:=ho j;unfold fup;simp only[if_neg (Ne.symm hne)];by_cases e1:j=(b-1).toNat
   ·rw[if_pos e1];by_cases ek:(b-1).toNat=k
    ·have:=a2.2.2.2 ek;omega
    ·have:=a2.2.2.1 ek;omega
   ·rw[if_neg e1];by_cases e2:j=(a-1).toNat
    ·rw[if_pos e2];by_cases ek:(a-1).toNat=k
     ·have:=a1.2.2.2 ek;omega
     ·have:=a1.2.2.1 ek;omega
    ·rw[if_neg e2];by_cases ek:j=k
     ·have:=a3.2.2.2 ek;omega
     ·have:=a3.2.2.1 ek;omega
  ·simp only[if_neg hk];have b1:=ho (a-1).toNat;have b2:=ho (b-1).toNat;have b3:=ho j;unfold fup;simp only[if_neg (Ne.symm hne)]
   split
   ·omega
   ·split<;>omega
theorem vJ (B:Bk) (hB:B.Fine) (T c:Nat->Int) (hT: ∀k,0<=T k) (hc: ∀i,i<B.pairs.length->0<=c i/\c i<=5): ∀i,i<=B.pairs.length-> ∀j,0<=B.loadTo T c i j/\B.loadTo T c i j<=5*i
 | 0,_,j=>by simp[Bk.loadTo]
 |i+1,hi,j=>by
  have ih:=vJ B hB T c hT hc i (by omega);have he:=hB.ends i (by omega);have:=OL B T (c i) (B.pone i) (B.ptwo i) (B.loadTo T c i) (5*i) hT (hc i (by omega)) ih (fun h=>by omega) j;unfold Bk.loadTo;omega
end Go.Rent
namespace Go.Proofs.YtfiiffnbggnkfaaDoor
open Go.RowKit Go.Rent
theorem ak {W w1:wD} {n:Nat} (hb:bX n W w1):(∀b o,b<n->w1.cell? ⟨b,o,none⟩=W.cell? ⟨b,o,none⟩)/\(∀b o,b<n->w1.frozen? ⟨b,o,none⟩=W.frozen? ⟨b,o,none⟩):=
 ⟨fun b o h=>hb.cell (p:=⟨b,o,none⟩) h,fun b o h=>hb.frozen (p:=⟨b,o,none⟩) h⟩
structure BkV where
 ta:Option aD
 la:Option aD
 pa:Option aD
 tc:Nat
 lc:Nat
 pc:Nat
abbrev BkV.val (V:BkV) (B:Bk):vL:= .agg #[iN qi B.hours,sL V.ta B.towns.length V.tc,sL V.la B.links.length V.lc,sL V.pa B.pairs.length V.pc]
structure bT (w:wD) (V:BkV) (B:Bk):Prop where
 towns: ∀(i:Nat) (t:ByteArray),B.towns[i]? =some t-> ∃b o,V.ta=some ⟨b,o,none⟩/\w.cell? ⟨b,o+i,none⟩=some (.string t)
 links: ∀(i:Nat) (L:Lnk),B.links[i]? =some L-> ∃b o sa sc,V.la=some ⟨b,o,none⟩/\w.cell? ⟨b,o+i*3,none⟩=some (iN qi L.one)/\w.cell? ⟨b,o+i*3+1,none⟩=some (iN qi L.two)/\w.cell? ⟨b,o+i*3+2,none⟩=some (sL sa L.steps.length sc)/\
  ∀(k:Nat) (s:Int×Int),L.steps[k]? =some s-> ∃b' o',sa=some ⟨b',o',none⟩/\w.cell? ⟨b',o'+k*2,none⟩=some (iN qi s.1)/\w.cell? ⟨b',o'+k*2+1,none⟩=some (iN qi s.2)
 pairs: ∀(i:Nat) (L:Pr),B.pairs[i]? =some L-> ∃b o sa sc,V.pa=some ⟨b,o,none⟩/\w.cell? ⟨b,o+i*3,none⟩=some (iN qi L.one)/\w.cell? ⟨b,o+i*3+1,none⟩=some (iN qi L.two)/\w.cell? ⟨b,o+i*3+2,none⟩=some (sL sa L.calls.length sc)/\
  ∀(k:Nat) (s:Int×Int),L.calls[k]? =some s-> ∃b' o',sa=some ⟨b',o',none⟩/\w.cell? ⟨b',o'+k*2,none⟩=some (iN qi s.1)/\w.cell? ⟨b',o'+k*2+1,none⟩=some (iN qi s.2)
theorem aoF {n:Nat} {w w':wD} (h:bX n w w') {b o:Nat} {v:vL} (hc:w.cell? ⟨b,o,none⟩=some v) (hn:w.heap.size<=n):w'.cell? ⟨b,o,none⟩=some v:=by
 rw[h.cell (p:=⟨b,o,none⟩) (Nat.lt_of_lt_of_le (wBk w _ hc) hn)];exact hc
theorem bT.below {n:Nat} {w w':wD} {V:BkV} {B:Bk} (hB:bT w V B) (h:bX n w w') (hn:w.heap.size<=n):bT w' V B:=by
 refine⟨fun i t hi=> ?_,fun i L hi=> ?_,fun i L hi=> ?_⟩
 ·obtain⟨b,o,h1,h2⟩:=hB.towns i t hi;exact⟨b,o,h1,aoF h h2 hn⟩
 ·obtain⟨b,o,sa,sc,h1,h2,h3,h4,h5⟩:=hB.links i L hi;refine⟨b,o,sa,sc,h1,aoF h h2 hn,aoF h h3 hn,aoF h h4 hn,fun k s hk=> ?_⟩;obtain⟨b',o',g1,g2,g3⟩:=h5 k s hk;exact⟨b',o',g1,aoF h g2 hn,aoF h g3 hn⟩
 ·obtain⟨b,o,sa,sc,h1,h2,h3,h4,h5⟩:=hB.pairs i L hi;refine⟨b,o,sa,sc,h1,aoF h h2 hn,aoF h h3 hn,aoF h h4 hn,fun k s hk=> ?_⟩;obtain⟨b',o',g1,g2,g3⟩:=h5 k s hk;exact⟨b',o',g1,aoF h g2 hn,aoF h g3 hn⟩
theorem c145 (x y:Int) (w:wD):cF tP 117 #[.agg #[iN qi x,iN qi y]] w fun e w'=>e= rT (iN qi y)/\bX w.heap.size w w':=by
 go_enter Tryd.func117,Tryd.ntmps117;go_wp2;go_ret;exact⟨rfl,(bR _ _).alloc (nR _) _⟩
theorem OM (x y:Int) (w:wD):cF tP 116 #[.agg #[iN qi x,iN qi y]] w fun e w'=>e= rT (iN qi x)/\bX w.heap.size w w':=by
 go_enter Tryd.func116,Tryd.ntmps116;go_wp2;go_ret;exact⟨rfl,(bR _ _).alloc (nR _) _⟩
theorem c88 (h:Int) (ta:Option aD) (tn tc:Nat) (l p:vL) (w:wD) (ht:tn<=maxLen):cF tP 44 #[.agg #[iN qi h,sL ta tn tc,l,p]] w fun e w'=>e= rT (iN qi ((tn:Int)-1))/\bX w.heap.size w w':=by
 unfold maxLen at ht;go_enter Tryd.func44,Tryd.ntmps44;go_wp2;go_ret;exact⟨rfl,(bR _ _).alloc (nR _) _⟩
abbrev vK (most:Bool):Nat:=if most then 117 else 116
theorem OO (i h:Int) (x b hb:Nat) (pb po pn pc cb co cn cc:Nat) (fr t:Int) (w:wD) (hi0:0<=i) (hi1:i<pn) (hh0:0<=h) (hh1:h<cn)
    (h1:w.cell? ⟨x,0,none⟩=some (.func (.func 117) #[] #[])) (h2:w.cell? ⟨b,3,none⟩=some (sL (some ⟨pb,po,none⟩) pn pc)) (h3:w.cell? ⟨hb,0,none⟩=some (iN qi h))
    (h4:w.cell? ⟨pb,po+i.toNat*3+2,none⟩=some (sL (some ⟨cb,co,none⟩) cn cc)) (h5:w.cell? ⟨cb,co+h.toNat*2,none⟩=some (iN qi fr)) (h6:w.cell? ⟨cb,co+h.toNat*2+1,none⟩=some (iN qi t)):
    cF tP 67 #[iN qi i,pN (some ⟨x,0,none⟩),pN (some ⟨b,0,none⟩),pN (some ⟨hb,0,none⟩)] w fun e w'=>e= rT (iN qi t)/\bX w.heap.size w w':=by
  have l1:=wBk w _ h1;have l2:=wBk w _ h2;have l3:=wBk w _ h3;have l4:=wBk w _ h4;have l5:=wBk w _ h5;go_enter Tryd.func67,Tryd.ntmps67
  go_wp2_with fail
  go_region_held3 (fun w'=>w'.cell? ⟨x,0,none⟩=some (.func (.func 117) #[] #[])/\w'.cell? ⟨b,3,none⟩=some (sL (some ⟨pb,po,none⟩) pn pc)/\w'.cell? ⟨hb,0,none⟩=some (iN qi h)/\
     w'.cell? ⟨pb,po+i.toNat*3+2,none⟩=some (sL (some ⟨cb,co,none⟩) cn cc)/\w'.cell? ⟨cb,co+h.toNat*2,none⟩=some (iN qi fr)/\w'.cell? ⟨cb,co+h.toNat*2+1,none⟩=some (iN qi t))
    (first
      |go_keep
      | (go_split_ands
         obtain⟨hc,hf⟩:=ak hbel;refine⟨?_, ?_, ?_, ?_, ?_, ?_⟩<;>(rw[hc _ _ (by assumption)];assumption)))
    (first | (go_simp;go_at_call 117;refine(c145 _ _ _).mono ?_;rintro e w1 ⟨rfl,hbel⟩))
  go_wp2;go_ret;exact⟨rfl,((bR _ _).drew).trans hbel⟩
theorem OQ (i h:Int) (x b hb:Nat) (pb po pn pc cb co cn cc:Nat) (fr t:Int) (w:wD) (hi0:0<=i) (hi1:i<pn) (hh0:0<=h) (hh1:h<cn)
    (h1:w.cell? ⟨x,0,none⟩=some (.func (.func 116) #[] #[])) (h2:w.cell? ⟨b,3,none⟩=some (sL (some ⟨pb,po,none⟩) pn pc)) (h3:w.cell? ⟨hb,0,none⟩=some (iN qi h))
    (h4:w.cell? ⟨pb,po+i.toNat*3+2,none⟩=some (sL (some ⟨cb,co,none⟩) cn cc)) (h5:w.cell? ⟨cb,co+h.toNat*2,none⟩=some (iN qi fr)) (h6:w.cell? ⟨cb,co+h.toNat*2+1,none⟩=some (iN qi t)):
    cF tP 67 #[iN qi i,pN (some ⟨x,0,none⟩),pN (some ⟨b,0,none⟩),pN (some ⟨hb,0,none⟩)] w fun e w'=>e= rT (iN qi fr)/\bX w.heap.size w w':=by
  have l1:=wBk w _ h1;have l2:=wBk w _ h2;have l3:=wBk w _ h3;have l4:=wBk w _ h4;have l5:=wBk w _ h5;go_enter Tryd.func67,Tryd.ntmps67
  go_wp2_with fail
  go_region_held3 (fun w'=>w'.cell? ⟨x,0,none⟩=some (.func (.func 116) #[] #[])/\w'.cell? ⟨b,3,none⟩=some (sL (some ⟨pb,po,none⟩) pn pc)/\w'.cell? ⟨hb,0,none⟩=some (iN qi h)/\
     w'.cell? ⟨pb,po+i.toNat*3+2,none⟩=some (sL (some ⟨cb,co,none⟩) cn cc)/\w'.cell? ⟨cb,co+h.toNat*2,none⟩=some (iN qi fr)/\w'.cell? ⟨cb,co+h.toNat*2+1,none⟩=some (iN qi t))
    (first
      |go_keep
      | (go_split_ands
         obtain⟨hc,hf⟩:=ak hbel;refine⟨?_, ?_, ?_, ?_, ?_, ?_⟩<;>(rw[hc _ _ (by assumption)];assumption)))
    (first | (go_simp;go_at_call 116;refine(OM _ _ _).mono ?_;rintro e w1 ⟨rfl,hbel⟩))
  go_wp2;go_ret;exact⟨rfl,((bR _ _).drew).trans hbel⟩
theorem c93 (most:Bool) (i:Int) (V:BkV) (B:Bk) (hB:B.Fine) (h:Nat) (x b hb:Nat) (w:wD) (hat:bT w V B) (hi0:0<=i) (hi1:i<B.pairs.length) (hh:(h:Int)<B.hours)
  (h1:w.cell? ⟨x,0,none⟩=some (.func (.func (vK most)) #[] #[])) (h2:w.cell? ⟨b,3,none⟩=some (sL V.pa B.pairs.length V.pc)) (h3:w.cell? ⟨hb,0,none⟩=some (iN qi h)):
  cF tP 67 #[iN qi i,pN (some ⟨x,0,none⟩),pN (some ⟨b,0,none⟩),pN (some ⟨hb,0,none⟩)] w fun e w'=>e= rT (iN qi (B.call most h i.toNat))/\bX w.heap.size w w':=by
 have hi:B.pairs[i.toNat]? =some B.pairs[i.toNat]:=lG (by omega);obtain⟨pb,po,sa,sc,g1,g2,g3,g4,g5⟩:=hat.pairs _ _ hi;obtain⟨c1,c2⟩:=hB.calls _ _ hi;have hc:B.pairs[i.toNat].calls[h]? =some B.pairs[i.toNat].calls[h]:=lG (by omega);obtain⟨cb,co,k1,k2,k3⟩:=g5 _ _ hc;have hcall:B.call most h i.toNat=if most then (B.pairs[i.toNat].calls[h]).2 else (B.pairs[i.toNat].calls[h]).1:=by
  unfold Bk.call;rw[hi,Option.bind_some,hc]
 rw[hcall];rw[g1] at h2;rw[k1] at g4
 cases most with
 |true=>exact OO i h x b hb pb po _ _ cb co _ _ _ _ w hi0 hi1 (by omega) (by omega) h1 h2 h3 g4 (by simpa using k2) (by simpa using k3)
 |false=>exact OQ i h x b hb pb po _ _ cb co _ _ _ _ w hi0 hi1 (by omega) (by omega) h1 h2 h3 g4 (by simpa using k2) (by simpa using k3)
section
variable {L:Lnk}
theorem OT {B:Bk} {k:Nat} {a b:Int} (hlt':B.links[k]? =some L) (hlt:k<B.links.length) (ea:a=L.one) (eb:b=L.two):B.directFrom a b (B.links.length-k) k=k:=by
 obtain⟨m,hm⟩: ∃m,B.links.length-k=m+1:=⟨B.links.length-k-1,by omega⟩;rw[hm,Bk.directFrom,if_pos];unfold Bk.one Bk.two;rw[hlt'];exact⟨ea.symm,eb.symm⟩
theorem OU {B:Bk} {k:Nat} {a b:Int} (hlt':B.links[k]? =some L) (hlt:k<B.links.length) (h: ¬(a=L.one/\b=L.two)):B.directFrom a b (B.links.length-k) k=B.directFrom a b (B.links.length-(k+1)) (k+1):=by
 obtain⟨m,hm⟩: ∃m,B.links.length-k=m+1:=⟨B.links.length-k-1,by omega⟩;rw[hm,Bk.directFrom,if_neg,show B.links.length-(k+1)=m by omega];unfold Bk.one Bk.two;rw[hlt'];exact fun x=>h ⟨x.1.symm,x.2.symm⟩
theorem vM (V:BkV) (B:Bk) (hB:B.Fine) (a b:Int) (w:wD) (hat:bT w V B):
    cF tP 76 #[V.val B,.agg #[iN qi a,iN qi b]] w fun e w'=>e= rT (iN qi (B.direct a b))/\bX w.heap.size w w':=by
  obtain⟨ta,la,pa,tc,lc,pc⟩:=V;have hl:=hB.links;have ht:=hB.towns;unfold Bk.spokes at hl;have htl:B.towns.length<=maxLen:=by unfold maxLen;omega
  go_enter Tryd.func76,Tryd.ntmps76
  go_wp2_with (first | (go_at_call 44;refine(c88 _ _ _ _ _ _ _ htl).mono ?_;rintro e w1 ⟨rfl,hb1⟩))
  have hx2:w1.cell? ⟨w.heap.size,2,none⟩=some (sL la B.links.length lc):=by rw[(ak hb1).1 _ _ (by simp;omega)];go_simp
  have hx3:w1.cell? ⟨w.heap.size+1,0,none⟩=some (iN qi a):=by rw[(ak hb1).1 _ _ (by simp)];go_simp
  have hx4:w1.cell? ⟨w.heap.size+1,1,none⟩=some (iN qi b):=by rw[(ak hb1).1 _ _ (by simp)];go_simp
  have hbl:bX w.heap.size w w1:=(((bR _ _).alloc (nR _) _).alloc (by simp) _).trans (hb1.mono (by simp;omega));have hsz:w.heap.size+2<=w1.heap.size:=by have:=hb1.size;simpa using this
  clear hb1;have hd0:B.direct a b=B.directFrom a b (B.links.length-(B.towns.length-1)) (B.towns.length-1):=rfl;have Hd0:=lH hd0;clear hd0
  go_loopw [5] (fun i wr=> ∃k:Nat,B.towns.length-1<=k/\k<=B.links.length/\i= iN qi (k:Int)/\B.direct a b=B.directFrom a b (B.links.length-k) k/\bX w.heap.size w wr/\w.heap.size+2<=wr.heap.size/\
      wr.cell? ⟨w.heap.size,2,none⟩=some (sL la B.links.length lc)/\wr.cell? ⟨w.heap.size+1,0,none⟩=some (iN qi a)/\wr.cell? ⟨w.heap.size+1,1,none⟩=some (iN qi b)) (fun i _=>B.links.length-(intOf i).toNat)
  case atStart=>exact⟨B.towns.length-1,nR _,hl.1,by congr 1;omega,Hd0.out,hbl,hsz,hx2,hx3,hx4⟩
  case round=>
    obtain⟨k,hk1,hk2,rfl,hdk,hbk,hszk,hy2,hy3,hy4⟩:=hrel;have Hdk:=lH hdk;clear hdk;have hs0:w.heap.size<wr.heap.size:=by omega
    have hs1:w.heap.size+1<wr.heap.size:=by omega
    by_cases hlt:k<B.links.length
    · have hL:B.links[k]? =some B.links[k]:=lG hlt
      obtain⟨lb,lo,sa,sc,g1,g2,g3,g4,_⟩:=(hat.below hbk (nR _)).links _ _ hL;simp only at g1;subst g1;generalize hp:B.links[k].one=p at g2;generalize hr:B.links[k].two=r at g3;generalize B.links[k].steps.length=sn at g4;have Hhit:a=p->b=r->B.directFrom a b (B.links.length-k) k=k:=fun e1 e2=>OT hL hlt (e1.trans hp.symm) (e2.trans hr.symm);have Hmiss: ¬(a=p/\b=r)->B.directFrom a b (B.links.length-k) k=B.directFrom a b (B.links.length-(k+1)) (k+1):=fun h=>OU hL hlt fun x=>h ⟨x.1.trans hp,x.2.trans hr⟩;clear hp hr hL;have HH:=lH Hhit;have HM:=lH Hmiss;clear Hhit Hmiss;by_cases e1:p=a
      · subst e1
        by_cases e2:r=b
        · subst e2
          go_wp2;go_ret;exact⟨by rw[Hdk.out,HH.out (by simp) (by simp)];rfl,hbk.trans (((bR _ _).alloc (nR _) _).mono (by omega))⟩
        · have e3: ¬b=r:=fun h=>e2 h.symm
          go_wp2;go_roundw
          case rel=>exact⟨k+1,by omega,by omega,by go_num,by rw[Hdk.out];exact HM.out (fun x=>e3 x.2),hbk.trans (((bR _ _).alloc (nR _) _).mono (by omega)),by simp;omega,by go_simp,by go_simp,by go_simp⟩
          case measure=>simp[intOf];omega
      · have e3: ¬a=p:=fun h=>e1 h.symm
        go_wp2;go_roundw
        case rel=>exact⟨k+1,by omega,by omega,by go_num,by rw[Hdk.out];exact HM.out (fun x=>e3 x.1),hbk.trans (((bR _ _).alloc (nR _) _).mono (by omega)),by simp;omega,by go_simp,by go_simp,by go_simp⟩
        case measure=>simp[intOf];omega
    · have hke:k=B.links.length:=by omega
      go_wp2;go_ret;refine⟨?_,hbk⟩;rw[Hdk.out,hke,Nat.sub_self];rfl
end
def btw (n lo hi:Int):Bool:=decide (lo<=n/\n<=hi)
theorem fK {n lo hi:Int} (h:btw n lo hi=true):lo<=n/\n<=hi:=by simpa[btw] using h
theorem c69 (n lo hi:Int) (w:wD):cF tP 48 #[iN qi n,iN qi lo,iN qi hi] w fun e w'=>e= rT (.bool (btw n lo hi))/\w=w':=by
 by_cases h1:lo<=n
 ·by_cases h2:n<=hi
  ·go_enter Tryd.func48,Tryd.ntmps48;go_wp2;go_ret;exact⟨by simp[btw,h1,h2],rfl⟩
  ·go_enter Tryd.func48,Tryd.ntmps48;go_wp2;go_ret;exact⟨by simp[btw,h1,h2],rfl⟩
 ·go_enter Tryd.func48,Tryd.ntmps48;go_wp2;go_ret;exact⟨by simp[btw];omega,rfl⟩
def dw (x:Int×Int):Bool:=decide (0<=x.1/\x.1<=x.2/\x.2<=5)
theorem c90 (x y:Int) (w:wD):cF tP 71 #[.agg #[iN qi x,iN qi y]] w fun e w'=>e= rT (.bool (dw (x,y)))/\bX w.heap.size w w':=by
 by_cases h1:0<=x
 ·by_cases h2:x<=y
  ·by_cases h3:y<=5
   all_goals
    go_enter Tryd.func71,Tryd.ntmps71;go_wp2;go_ret;exact⟨by simp[dw,h1,h2,h3],(bR _ _).alloc (nR _) _⟩
  ·go_enter Tryd.func71,Tryd.ntmps71;go_wp2;go_ret;exact⟨by simp[dw];omega,(bR _ _).alloc (nR _) _⟩
 ·go_enter Tryd.func71,Tryd.ntmps71;go_wp2;go_ret;exact⟨by simp[dw];omega,(bR _ _).alloc (nR _) _⟩
theorem c92 (n:Int) (w:wD):cF tP 66 #[iN qi n] w fun e w'=>e= rT (.bool (!btw n 0 20))/\bX w.heap.size w w':=by
 go_enter Tryd.func66,Tryd.ntmps66
 go_wp2_with (go_at_call 48;refine(c69 _ _ _ _).mono ?_;rintro e w' ⟨rfl,rfl⟩)
 go_ret;exact⟨rfl,bR _ _⟩
theorem c68 (n:Int) (w:wD):cF tP 53 #[iN qi n] w fun e w'=>e= rT (.bool (!btw n 0 5))/\bX w.heap.size w w':=by
 go_enter Tryd.func53,Tryd.ntmps53
 go_wp2_with (go_at_call 48;refine(c69 _ _ _ _).mono ?_;rintro e w' ⟨rfl,rfl⟩)
 go_ret;exact⟨rfl,bR _ _⟩
theorem OV (x y:Int) (w:wD):cF tP 127 #[.agg #[iN qi x,iN qi y]] w fun e w'=>e= rT (.bool (!dw (x,y)))/\bX w.heap.size w w':=by
 go_enter Tryd.func127,Tryd.ntmps127
 go_wp2_with (go_at_call 71;refine(c90 _ _ _).mono ?_;rintro e w1 ⟨rfl,hb1⟩)
 go_ret;exact⟨rfl,((bR _ _).alloc (nR _) _).trans (hb1.mono (by simp))⟩
theorem c152 (h:Int) (ta:Option aD) (tn tc:Nat) (l p:vL) (n:Int) (w:wD) (ht:tn<=maxLen):cF tP 124 #[.agg #[iN qi h,sL ta tn tc,l,p],iN qi n] w fun e w'=>e= rT (.bool (btw n 0 ((tn:Int)-1)))/\bX w.heap.size w w':=by
 unfold maxLen at ht;go_enter Tryd.func124,Tryd.ntmps124
 go_wp2_with (go_at_call 48;refine(c69 _ _ _ _).mono ?_;rintro e w' ⟨rfl,rfl⟩)
 go_ret;exact⟨rfl,(bR _ _).alloc (nR _) _⟩
def nX (c:Int):Bool:=btw c 97 122||btw c 48 57
theorem c157 (c:Int) (w:wD) (h0:0<=c) (h1:c<=255):cF tP 129 #[.int .u8 c] w fun e w'=>e= rT (.bool (!nX c))/\bX w.heap.size w w':=by
 by_cases hb:btw c 97 122=true
 ·go_enter Tryd.func129,Tryd.ntmps129
  go_wp2_with (go_at_call 48;refine(c69 _ _ _ _).mono ?_;rintro e w' ⟨rfl,rfl⟩)
  all_goals
   go_ret;exact⟨by simp[nX,hb],bR _ _⟩
 ·have hb':btw c 97 122=false:=by simpa using hb
  go_enter Tryd.func129,Tryd.ntmps129
  go_wp2_with (go_at_call 48;refine(c69 _ _ _ _).mono ?_;rintro e w' ⟨rfl,rfl⟩)
  all_goals
   go_ret;exact⟨by simp[nX,hb'],bR _ _⟩
theorem cf {f:FuncId} {fn:Func} (h:tP.funcs[f]? =some fn) (hb:fn.body.isNone=false) (hn:(fn.name== "runtime.NumGoroutine")=false) (args:Array vL) (u:wD):(callFunc f args).run tP u= .ok (.enter f args) u:=by
 have hb':fn.body≠none:=by intro e;rw[e] at hb;cases hb
 have hn':fn.name≠ "runtime.NumGoroutine" :=by simpa using hn
 simp[callFunc,program,Sem.run,h,hb',hn',bind,Sem.bind,pure]
def firstAt {α:Type} (p:α->Bool):List α->Nat->Int
 | [],_=> -1
 |x::l,i=>if p x then (i:Int) else firstAt p l (i+1)
theorem pG {α:Type} {p:α->Bool} {l:List α} {k:Nat} {x:α} (hx:l[k]? =some x) (h:p x=true):firstAt p (l.drop k) k=k:=by
 obtain⟨hl,rfl⟩:=lS.1 hx;rw[List.drop_eq_getElem_cons hl,firstAt,if_pos h]
theorem pI {α:Type} {p:α->Bool} {l:List α} {k:Nat} {x:α} (hx:l[k]? =some x) (h:p x=false):firstAt p (l.drop k) k=firstAt p (l.drop (k+1)) (k+1):=by
 obtain⟨hl,rfl⟩:=lS.1 hx;rw[List.drop_eq_getElem_cons hl,firstAt,if_neg (by rw[h];decide)]
theorem pJ {α:Type} {p:α->Bool}: ∀(l:List α) (i:Nat),decide (0<=firstAt p l i)=l.any p
 | [],_=>rfl
 |x::l,i=>by
  unfold firstAt
  cases h:p x with
  |true=>simp[h]
  |false=>simp[h,<-pJ l (i+1)]
theorem pK {α:Type} {p:α->Bool} {l:List α} {k:Nat} (h:l.length<=k):firstAt p (l.drop k) k= -1:=by rw[List.drop_of_length_le h];rfl
def SlI (w:wD) (sa:Option aD) (xs:List Int):Prop:= ∀(i:Nat) (x:Int),xs[i]? =some x-> ∃b o,sa=some ⟨b,o,none⟩/\w.cell? ⟨b,o+i,none⟩=some (iN qi x)
theorem SlI.below {n:Nat} {w w':wD} {sa:Option aD} {xs:List Int} (h:SlI w sa xs) (hb:bX n w w') (hn:w.heap.size<=n):SlI w' sa xs:=fun i x hx=>by
 obtain⟨b,o,e,h0⟩:=h i x hx;exact⟨b,o,e,aoF hb h0 hn⟩
def SlB (w:wD) (sa:Option aD) (xs:List (Int×Int)):Prop:= ∀(i:Nat) (x:(Int×Int)),xs[i]? =some x-> ∃b o,sa=some ⟨b,o,none⟩/\w.cell? ⟨b,o+i*2,none⟩=some (iN qi x.1)/\w.cell? ⟨b,o+i*2+1,none⟩=some (iN qi x.2)
theorem SlB.below {n:Nat} {w w':wD} {sa:Option aD} {xs:List (Int×Int)} (h:SlB w sa xs) (hb:bX n w w') (hn:w.heap.size<=n):SlB w' sa xs:=fun i x hx=>by
 obtain⟨b,o,e,h0,h1⟩:=h i x hx;exact⟨b,o,e,aoF hb h0 hn,aoF hb h1 hn⟩
def SlL (w:wD) (sa:Option aD) (xs:List (Int×Int×Int)):Prop:= ∀(i:Nat) (x:(Int×Int×Int)),xs[i]? =some x-> ∃b o,sa=some ⟨b,o,none⟩/\w.cell? ⟨b,o+i*3,none⟩=some (iN qi x.1)/\w.cell? ⟨b,o+i*3+1,none⟩=some (iN qi x.2.1)/\w.cell? ⟨b,o+i*3+2,none⟩=some (iN qi x.2.2)
theorem SlL.below {n:Nat} {w w':wD} {sa:Option aD} {xs:List (Int×Int×Int)} (h:SlL w sa xs) (hb:bX n w w') (hn:w.heap.size<=n):SlL w' sa xs:=fun i x hx=>by
 obtain⟨b,o,e,h0,h1,h2⟩:=h i x hx;exact⟨b,o,e,aoF hb h0 hn,aoF hb h1 hn,aoF hb h2 hn⟩
def SlY (w:wD) (sa:Option aD) (xs:List UInt8):Prop:= ∀(i:Nat) (x:UInt8),xs[i]? =some x-> ∃b o,sa=some ⟨b,o,none⟩/\w.cell? ⟨b,o+i,none⟩=some (.int .u8 (x.toNat:Int))
theorem SlY.below {n:Nat} {w w':wD} {sa:Option aD} {xs:List UInt8} (h:SlY w sa xs) (hb:bX n w w') (hn:w.heap.size<=n):SlY w' sa xs:=fun i x hx=>by
 obtain⟨b,o,e,h0⟩:=h i x hx;exact⟨b,o,e,aoF hb h0 hn⟩
def SlS (w:wD) (sa:Option aD) (xs:List ByteArray):Prop:= ∀(i:Nat) (x:ByteArray),xs[i]? =some x-> ∃b o,sa=some ⟨b,o,none⟩/\w.cell? ⟨b,o+i,none⟩=some (.string x)
theorem SlS.below {n:Nat} {w w':wD} {sa:Option aD} {xs:List ByteArray} (h:SlS w sa xs) (hb:bX n w w') (hn:w.heap.size<=n):SlS w' sa xs:=fun i x hx=>by
 obtain⟨b,o,e,h0⟩:=h i x hx;exact⟨b,o,e,aoF hb h0 hn⟩
theorem Cb (f:FuncId) (p:Int->Bool) (sa:Option aD) (xs:List Int) (n cap:Nat) (w:wD) (hn:n=xs.length) (hs:SlI w sa xs) (hl:xs.length<=1000000)
  (hcf: ∀(args:Array vL) (u:wD),(callFunc f args).run tP u= .ok (.enter f args) u) (hp: ∀(x:Int) (w1:wD),x∈xs->cF tP f #[iN qi x] w1 fun e w'=>e= rT (.bool (p x))/\bX w1.heap.size w1 w'):
  cF tP 75 #[sL sa n cap,.func (.func f) #[] #[]] w fun e w'=>e= rT (iN qi (firstAt p xs 0))/\bX w.heap.size w w':=by
 subst hn;have Hs:=lH hs;clear hs;go_enter Tryd.func75,Tryd.ntmps75
 go_wp2_with fail
 go_loopw [8] (fun i wr=> ∃k:Nat,k<=xs.length/\i= iN qi (k:Int)/\firstAt p xs 0=firstAt p (xs.drop k) k/\bX w.heap.size w wr) (fun i _=>xs.length-(intOf i).toNat)
 case atStart=>exact⟨0,Nat.zero_le _,rfl,rfl,bR _ _⟩
 case round=>
  obtain⟨k,hk,rfl,hfk,hb⟩:=hrel;have Hfk:=lH hfk;clear hfk;by_cases hlt:k<xs.length
  ·have hx:xs[k]? =some xs[k]:=lG hlt;have hmem:xs[k]∈xs:=List.getElem_mem hlt;obtain⟨b,o,rfl,g0⟩:=(Hs.out.below hb (nR _)) k _ hx;generalize xs[k]=x at *;have Hx:=lH hx;clear hx
   cases hpx:p x with
   |true=>
    go_wp2_with fail
    refine(hp x _ hmem).mono ?_;rintro e w1 ⟨rfl,hb1⟩
    go_wp2_with fail
    go_ret;exact⟨by rw[Hfk.out,pG Hx.out hpx];rfl,hb.trans (hb1.mono hb.size)⟩
   |false=>
    have Hpx:=lH hpx
    go_wp2_with fail
    refine(hp x _ hmem).mono ?_;rintro e w1 ⟨rfl,hb1⟩
    go_wp2_with fail
    go_roundw
    case rel=>exact⟨k+1,by omega,by go_num,by rw[Hfk.out,pI Hx.out Hpx.out],hb.trans (hb1.mono hb.size)⟩
    case measure=>simp[intOf];omega
  ·have hke:xs.length<=k:=by omega
   go_wp2;go_ret;exact⟨by rw[Hfk.out,pK hke];rfl,hb⟩
theorem c67 (f:FuncId) (p:Int->Bool) (sa:Option aD) (xs:List Int) (n cap:Nat) (w:wD) (hn:n=xs.length) (hs:SlI w sa xs) (hl:xs.length<=1000000)
  (hcf: ∀(args:Array vL) (u:wD),(callFunc f args).run tP u= .ok (.enter f args) u) (hp: ∀(x:Int) (w1:wD),x∈xs->cF tP f #[iN qi x] w1 fun e w'=>e= rT (.bool (p x))/\bX w1.heap.size w1 w'):
  cF tP 52 #[sL sa n cap,.func (.func f) #[] #[]] w fun e w'=>e= rT (.bool (xs.any p))/\bX w.heap.size w w':=by
 subst hn;have Hs:=lH hs;clear hs;go_enter Tryd.func52,Tryd.ntmps52
 go_wp2_with (go_at_call 75;refine(Cb f p sa xs _ cap _ rfl Hs.out hl hcf hp).mono ?_;rintro e w1 ⟨rfl,hb1⟩)
 go_ret;exact⟨by rw[<-pJ xs 0];rfl,hb1⟩
theorem c159 (f:FuncId) (p:(Int×Int)->Bool) (sa:Option aD) (xs:List (Int×Int)) (n cap:Nat) (w:wD) (hn:n=xs.length) (hs:SlB w sa xs) (hl:xs.length<=1000000)
  (hcf: ∀(args:Array vL) (u:wD),(callFunc f args).run tP u= .ok (.enter f args) u) (hp: ∀(x:(Int×Int)) (w1:wD),x∈xs->cF tP f #[.agg #[iN qi x.1,iN qi x.2]] w1 fun e w'=>e= rT (.bool (p x))/\bX w1.heap.size w1 w'):
  cF tP 131 #[sL sa n cap,.func (.func f) #[] #[]] w fun e w'=>e= rT (iN qi (firstAt p xs 0))/\bX w.heap.size w w':=by
 subst hn;have Hs:=lH hs;clear hs;go_enter Tryd.func131,Tryd.ntmps131
 go_wp2_with fail
 go_loopw [8] (fun i wr=> ∃k:Nat,k<=xs.length/\i= iN qi (k:Int)/\firstAt p xs 0=firstAt p (xs.drop k) k/\bX w.heap.size w wr) (fun i _=>xs.length-(intOf i).toNat)
 case atStart=>exact⟨0,Nat.zero_le _,rfl,rfl,bR _ _⟩
 case round=>
  obtain⟨k,hk,rfl,hfk,hb⟩:=hrel;have Hfk:=lH hfk;clear hfk;by_cases hlt:k<xs.length
  ·have hx:xs[k]? =some xs[k]:=lG hlt;have hmem:xs[k]∈xs:=List.getElem_mem hlt;obtain⟨b,o,rfl,g0,g1⟩:=(Hs.out.below hb (nR _)) k _ hx;generalize xs[k]=x at *;have Hx:=lH hx;clear hx
   cases hpx:p x with
   |true=>
    go_wp2_with fail
    refine(hp x _ hmem).mono ?_;rintro e w1 ⟨rfl,hb1⟩
    go_wp2_with fail
    go_ret;exact⟨by rw[Hfk.out,pG Hx.out hpx];rfl,hb.trans (hb1.mono hb.size)⟩
   |false=>
    have Hpx:=lH hpx
    go_wp2_with fail
    refine(hp x _ hmem).mono ?_;rintro e w1 ⟨rfl,hb1⟩
    go_wp2_with fail
    go_roundw
    case rel=>exact⟨k+1,by omega,by go_num,by rw[Hfk.out,pI Hx.out Hpx.out],hb.trans (hb1.mono hb.size)⟩
    case measure=>simp[intOf];omega
  ·have hke:xs.length<=k:=by omega
   go_wp2;go_ret;exact⟨by rw[Hfk.out,pK hke];rfl,hb⟩
theorem c154 (f:FuncId) (p:(Int×Int)->Bool) (sa:Option aD) (xs:List (Int×Int)) (n cap:Nat) (w:wD) (hn:n=xs.length) (hs:SlB w sa xs) (hl:xs.length<=1000000)
  (hcf: ∀(args:Array vL) (u:wD),(callFunc f args).run tP u= .ok (.enter f args) u) (hp: ∀(x:(Int×Int)) (w1:wD),x∈xs->cF tP f #[.agg #[iN qi x.1,iN qi x.2]] w1 fun e w'=>e= rT (.bool (p x))/\bX w1.heap.size w1 w'):
  cF tP 126 #[sL sa n cap,.func (.func f) #[] #[]] w fun e w'=>e= rT (.bool (xs.any p))/\bX w.heap.size w w':=by
 subst hn;have Hs:=lH hs;clear hs;go_enter Tryd.func126,Tryd.ntmps126
 go_wp2_with (go_at_call 131;refine(c159 f p sa xs _ cap _ rfl Hs.out hl hcf hp).mono ?_;rintro e w1 ⟨rfl,hb1⟩)
 go_ret;exact⟨by rw[<-pJ xs 0];rfl,hb1⟩
theorem c124 (f:FuncId) (p:(Int×Int×Int)->Bool) (sa:Option aD) (xs:List (Int×Int×Int)) (n cap:Nat) (w:wD) (hn:n=xs.length) (hs:SlL w sa xs) (hl:xs.length<=1000000)
  (hcf: ∀(args:Array vL) (u:wD),(callFunc f args).run tP u= .ok (.enter f args) u) (hp: ∀(x:(Int×Int×Int)) (w1:wD),x∈xs->cF tP f #[.agg #[iN qi x.1,iN qi x.2.1,iN qi x.2.2]] w1 fun e w'=>e= rT (.bool (p x))/\bX w1.heap.size w1 w'):
  cF tP 94 #[sL sa n cap,.func (.func f) #[] #[]] w fun e w'=>e= rT (iN qi (firstAt p xs 0))/\bX w.heap.size w w':=by
 subst hn;have Hs:=lH hs;clear hs;go_enter Tryd.func94,Tryd.ntmps94
 go_wp2_with fail
 go_loopw [8] (fun i wr=> ∃k:Nat,k<=xs.length/\i= iN qi (k:Int)/\firstAt p xs 0=firstAt p (xs.drop k) k/\bX w.heap.size w wr) (fun i _=>xs.length-(intOf i).toNat)
 case atStart=>exact⟨0,Nat.zero_le _,rfl,rfl,bR _ _⟩
 case round=>
  obtain⟨k,hk,rfl,hfk,hb⟩:=hrel;have Hfk:=lH hfk;clear hfk;by_cases hlt:k<xs.length
  ·have hx:xs[k]? =some xs[k]:=lG hlt;have hmem:xs[k]∈xs:=List.getElem_mem hlt;obtain⟨b,o,rfl,g0,g1,g2⟩:=(Hs.out.below hb (nR _)) k _ hx;generalize xs[k]=x at *;have Hx:=lH hx;clear hx
   cases hpx:p x with
   |true=>
    go_wp2_with fail
    refine(hp x _ hmem).mono ?_;rintro e w1 ⟨rfl,hb1⟩
    go_wp2_with fail
    go_ret;exact⟨by rw[Hfk.out,pG Hx.out hpx];rfl,hb.trans (hb1.mono hb.size)⟩
   |false=>
    have Hpx:=lH hpx
    go_wp2_with fail
    refine(hp x _ hmem).mono ?_;rintro e w1 ⟨rfl,hb1⟩
    go_wp2_with fail
    go_roundw
    case rel=>exact⟨k+1,by omega,by go_num,by rw[Hfk.out,pI Hx.out Hpx.out],hb.trans (hb1.mono hb.size)⟩
    case measure=>simp[intOf];omega
  ·have hke:xs.length<=k:=by omega
   go_wp2;go_ret;exact⟨by rw[Hfk.out,pK hke];rfl,hb⟩
theorem c107 (f:FuncId) (p:(Int×Int×Int)->Bool) (sa:Option aD) (xs:List (Int×Int×Int)) (n cap:Nat) (w:wD) (hn:n=xs.length) (hs:SlL w sa xs) (hl:xs.length<=1000000)
  (hcf: ∀(args:Array vL) (u:wD),(callFunc f args).run tP u= .ok (.enter f args) u) (hp: ∀(x:(Int×Int×Int)) (w1:wD),x∈xs->cF tP f #[.agg #[iN qi x.1,iN qi x.2.1,iN qi x.2.2]] w1 fun e w'=>e= rT (.bool (p x))/\bX w1.heap.size w1 w'):
  cF tP 73 #[sL sa n cap,.func (.func f) #[] #[]] w fun e w'=>e= rT (.bool (xs.any p))/\bX w.heap.size w w':=by
 subst hn;have Hs:=lH hs;clear hs;go_enter Tryd.func73,Tryd.ntmps73
 go_wp2_with (go_at_call 94;refine(c124 f p sa xs _ cap _ rfl Hs.out hl hcf hp).mono ?_;rintro e w1 ⟨rfl,hb1⟩)
 go_ret;exact⟨by rw[<-pJ xs 0];rfl,hb1⟩
theorem c160 (f:FuncId) (p:UInt8->Bool) (sa:Option aD) (xs:List UInt8) (n cap:Nat) (w:wD) (hn:n=xs.length) (hs:SlY w sa xs) (hl:xs.length<=1000000)
  (hcf: ∀(args:Array vL) (u:wD),(callFunc f args).run tP u= .ok (.enter f args) u) (hp: ∀(x:UInt8) (w1:wD),x∈xs->cF tP f #[.int .u8 (x.toNat:Int)] w1 fun e w'=>e= rT (.bool (p x))/\bX w1.heap.size w1 w'):
  cF tP 132 #[sL sa n cap,.func (.func f) #[] #[]] w fun e w'=>e= rT (iN qi (firstAt p xs 0))/\bX w.heap.size w w':=by
 subst hn;have Hs:=lH hs;clear hs;go_enter Tryd.func132,Tryd.ntmps132
 go_wp2_with fail
 go_loopw [8] (fun i wr=> ∃k:Nat,k<=xs.length/\i= iN qi (k:Int)/\firstAt p xs 0=firstAt p (xs.drop k) k/\bX w.heap.size w wr) (fun i _=>xs.length-(intOf i).toNat)
 case atStart=>exact⟨0,Nat.zero_le _,rfl,rfl,bR _ _⟩
 case round=>
  obtain⟨k,hk,rfl,hfk,hb⟩:=hrel;have Hfk:=lH hfk;clear hfk;by_cases hlt:k<xs.length
  ·have hx:xs[k]? =some xs[k]:=lG hlt;have hmem:xs[k]∈xs:=List.getElem_mem hlt;obtain⟨b,o,rfl,g0⟩:=(Hs.out.below hb (nR _)) k _ hx;generalize xs[k]=x at *;have Hx:=lH hx;clear hx
   cases hpx:p x with
   |true=>
    go_wp2_with fail
    refine(hp x _ hmem).mono ?_;rintro e w1 ⟨rfl,hb1⟩
    go_wp2_with fail
    go_ret;exact⟨by rw[Hfk.out,pG Hx.out hpx];rfl,hb.trans (hb1.mono hb.size)⟩
   |false=>
    have Hpx:=lH hpx
    go_wp2_with fail
    refine(hp x _ hmem).mono ?_;rintro e w1 ⟨rfl,hb1⟩
    go_wp2_with fail
    go_roundw
    case rel=>exact⟨k+1,by omega,by go_num,by rw[Hfk.out,pI Hx.out Hpx.out],hb.trans (hb1.mono hb.size)⟩
    case measure=>simp[intOf];omega
  ·have hke:xs.length<=k:=by omega
   go_wp2;go_ret;exact⟨by rw[Hfk.out,pK hke];rfl,hb⟩
theorem c156 (f:FuncId) (p:UInt8->Bool) (sa:Option aD) (xs:List UInt8) (n cap:Nat) (w:wD) (hn:n=xs.length) (hs:SlY w sa xs) (hl:xs.length<=1000000)
  (hcf: ∀(args:Array vL) (u:wD),(callFunc f args).run tP u= .ok (.enter f args) u) (hp: ∀(x:UInt8) (w1:wD),x∈xs->cF tP f #[.int .u8 (x.toNat:Int)] w1 fun e w'=>e= rT (.bool (p x))/\bX w1.heap.size w1 w'):
  cF tP 128 #[sL sa n cap,.func (.func f) #[] #[]] w fun e w'=>e= rT (.bool (xs.any p))/\bX w.heap.size w w':=by
 subst hn;have Hs:=lH hs;clear hs;go_enter Tryd.func128,Tryd.ntmps128
 go_wp2_with (go_at_call 132;refine(c160 f p sa xs _ cap _ rfl Hs.out hl hcf hp).mono ?_;rintro e w1 ⟨rfl,hb1⟩)
 go_ret;exact⟨by rw[<-pJ xs 0];rfl,hb1⟩
theorem OW (s:ByteArray) (sa:Option aD) (xs:List ByteArray) (n cap:Nat) (w:wD) (hn:n=xs.length) (hs:SlS w sa xs) (hl:xs.length<=1000000):
  cF tP 130 #[sL sa n cap,.string s] w fun e w'=>e= rT (iN qi (firstAt (fun x=>s.toList==x.toList) xs 0))/\w=w':=by
 subst hn;have Hs:=lH hs;clear hs;go_enter Tryd.func130,Tryd.ntmps130
 go_wp2_with fail
 go_loop [8] (fun i=> ∃k:Nat,k<=xs.length/\i= iN qi (k:Int)/\firstAt (fun x=>s.toList==x.toList) xs 0=firstAt (fun x=>s.toList==x.toList) (xs.drop k) k) (fun i=>xs.length-(intOf i).toNat)
 case atStart=>exact⟨0,Nat.zero_le _,rfl,rfl⟩
 case round=>
  obtain⟨k,hk,rfl,hfk⟩:=hrel;have Hfk:=lH hfk;clear hfk;by_cases hlt:k<xs.length
  ·have hx:xs[k]? =some xs[k]:=lG hlt;obtain⟨b,o,rfl,g0⟩:=Hs.out k _ hx;generalize xs[k]=x at *;have Hx:=lH hx;clear hx
   cases hpx:(s.toList==x.toList) with
   |true=>
    go_wp2_with fail
    go_ret;exact⟨by rw[Hfk.out,pG Hx.out hpx];rfl,rfl⟩
   |false=>
    go_wp2_with fail
    go_round
    case rel=>exact⟨k+1,by omega,by go_num,by rw[Hfk.out,pI Hx.out hpx]⟩
    case measure=>simp[intOf];omega
  ·have hke:xs.length<=k:=by omega
   go_wp2;go_ret;exact⟨by rw[Hfk.out,pK hke];rfl,rfl⟩
theorem OX (s:ByteArray) (sa:Option aD) (xs:List ByteArray) (n cap:Nat) (w:wD) (hn:n=xs.length) (hs:SlS w sa xs) (hl:xs.length<=1000000):
  cF tP 123 #[sL sa n cap,.string s] w fun e w'=>e= rT (.bool (xs.any fun x=>s.toList==x.toList))/\w=w':=by
 subst hn;have Hs:=lH hs;clear hs;go_enter Tryd.func123,Tryd.ntmps123
 go_wp2_with (go_at_call 130;refine(OW s sa xs _ cap _ rfl Hs.out hl).mono ?_;rintro e w1 ⟨rfl,rfl⟩)
 go_ret;exact⟨by rw[<-pJ xs 0];rfl,rfl⟩
def badByte (s:ByteArray):Bool:=s.data.toList.any fun c=> !nX (c.toNat:Int)
theorem OY (s:ByteArray) (sa:Option aD) (cap:Nat) (w:wD) (hs:SlY w sa s.data.toList) (h9:s.size<=9):
  cF tP 128 #[sL sa s.size cap,.func (.func 129) #[] #[]] w fun e w'=>e= rT (.bool (badByte s))/\bX w.heap.size w w':=
 c156 129 (fun c=> !nX (c.toNat:Int)) sa s.data.toList s.size cap w (by simp) hs (by simp;omega) (cf Tryd.func129 (by rfl) (by rfl)) (fun x w1 _=>c157 _ _ (by omega) (by have:=x.toNat_lt;omega))
def gB (s:ByteArray):Bool:=btw s.size 1 9&&btw ((s.data.toList.headD 0).toNat:Int) 97 122&& !badByte s
theorem OZ {s:ByteArray} (h:btw (s.size:Int) 1 9=true):0<s.size/\s.size<=9:=by have:=fK h;omega
theorem Cc {s:ByteArray} (h:0<s.size):s.data.toList.headD 0=s[0]:=by
 obtain⟨⟨l⟩⟩:=s
 cases l with
 |nil=>simp[ByteArray.size] at h
 |cons a l=>rfl
theorem Pe (w:wD) (s:ByteArray) (cap:Nat) (z:Nat×Nat):SlY (w.alloc (.cells (bytesRow s cap) 5 z)).drew (some ⟨w.heap.size,0,none⟩) s.data.toList:=by
 intro i x hx;refine⟨w.heap.size,0,rfl, ?_⟩;have hh:(w.alloc (.cells (bytesRow s cap) 5 z)).drew.heap[w.heap.size]? =some (.cells (bytesRow s cap) 5 z):=by
  show (w.heap.push _)[w.heap.size]? =_
  simp
 have hi:=(lS.1 hx).1;have hrow:(bytesRow s cap)[i]? =some (.int .u8 (x.toNat:Int)):=by
  unfold bytesRow;rw[Array.getElem?_append_left (by simpa using hi),Array.getElem?_map];have:s.data[i]? =some x:=by simpa using hx
  rw[this];rfl
 unfold World.cell?;dsimp only;rw[hh];simp[hrow]
theorem Gm (s:ByteArray) (w:wD):cF tP 122 #[.string s] w fun e w'=>e= rT (.bool (gB s))/\bX w.heap.size w w':=by
 cases h1:btw (s.size:Int) 1 9 with
 |false=>
  go_enter Tryd.func122,Tryd.ntmps122
  go_wp2_with (go_at_call 48;refine(c69 _ _ _ _).mono ?_;rintro e w' ⟨rfl,rfl⟩)
  go_ret;exact⟨by simp[gB,h1],bR _ _⟩
 |true=>
  obtain⟨h0,h9⟩:=OZ h1;have hh:=Cc h0
  cases h2:btw ((s.data.toList.headD 0).toNat:Int) 97 122 with
  |false=>
   have H:gB s=false:=by unfold gB;rw[h1,h2];rfl
   rw[hh] at h2;have hu0:0<=(s[0].toNat:Int):=by omega
   have hu1:(s[0].toNat:Int)<=255:=by have:=s[0].toNat_lt;omega
   have HH:=lH H;clear H hh;go_enter Tryd.func122,Tryd.ntmps122
   go_wp2_with (go_at_call 48;refine(c69 _ _ _ _).mono ?_;rintro e w' ⟨rfl,rfl⟩)
   go_ret;exact⟨by rw[HH.out];rfl,bR _ _⟩
  |true=>
   have H:gB s= !badByte s:=by unfold gB;rw[h1,h2];rfl
   rw[hh] at h2;have hu0:0<=(s[0].toNat:Int):=by omega
   have hu1:(s[0].toNat:Int)<=255:=by have:=s[0].toNat_lt;omega
   have HH:=lH H;clear H hh;have hcv:=run_bytes_of_string (P:=tP) w 9 176 5 s Tryd.underlying9 Tryd.underlying176 Tryd.underlying5;go_enter Tryd.func122,Tryd.ntmps122;have hsl:=Pe w s (grownCap w s.size 0 5) ((bytesRow s (grownCap w s.size 0 5)).size,(bytesRow s (grownCap w s.size 0 5)).size+1);have Hsl:=lH hsl;clear hsl
   go_wp2_with (first | (go_at_call 48;refine(c69 _ _ _ _).mono ?_;rintro e w' ⟨rfl,rfl⟩) |fail)
   refine(OY s _ _ _ Hsl.out h9).mono ?_;rintro e w1 ⟨rfl,hb1⟩;go_wp2;go_ret;exact⟨by rw[HH.out];rfl,((bR _ _).alloc (nR _) _).drew.trans (hb1.mono (by simp))⟩
def iZ (h:Int):Int:=if btw h 1 3 then 0 else 1
theorem c146 (h:Int) (t l p:vL) (w:wD):cF tP 118 #[.agg #[iN qi h,t,l,p]] w fun e w'=>e= rT (iN qi (iZ h))/\bX w.heap.size w w':=by
 cases h1:btw h 1 3 with
 |true=>
  have H:iZ h=0:=by unfold iZ;rw[h1];rfl
  have HH:=lH H;clear H;go_enter Tryd.func118,Tryd.ntmps118
  go_wp2_with (go_at_call 48;refine(c69 _ _ _ _).mono ?_;rintro e w' ⟨rfl,rfl⟩)
  go_ret;exact⟨by rw[HH.out];rfl,(bR _ _).alloc (nR _) _⟩
 |false=>
  have H:iZ h=1:=by unfold iZ;rw[h1];rfl
  have HH:=lH H;clear H;go_enter Tryd.func118,Tryd.ntmps118
  go_wp2_with (go_at_call 48;refine(c69 _ _ _ _).mono ?_;rintro e w' ⟨rfl,rfl⟩)
  go_ret;exact⟨by rw[HH.out];rfl,(bR _ _).alloc (nR _) _⟩
def pO (pre:List ByteArray) (t:ByteArray):Bool:=pre.any fun x=>t.toList==x.toList
def gG (pre:List ByteArray):List ByteArray->Int
 | []=>0
 |t::l=>if !gB t then 4 else if pO pre t then 5 else gG (pre++ [t]) l
def fM (ts:List ByteArray):Int:=if btw ts.length 2 4 then gG [] ts else 2
theorem Gn {ts:List ByteArray} {k:Nat} {t:ByteArray} (h:ts[k]? =some t):gG (ts.take k) (ts.drop k)=if !gB t then 4 else if pO (ts.take k) t then 5 else gG (ts.take (k+1)) (ts.drop (k+1)):=by
 obtain⟨hl,rfl⟩:=lS.1 h;rw[List.take_succ_eq_append_getElem hl]
 conv=>lhs;rw[List.drop_eq_getElem_cons hl];unfold gG
theorem Gp {ts:List ByteArray} {k:Nat} (h:ts.length<=k):gG (ts.take k) (ts.drop k)=0:=by rw[List.drop_of_length_le h];rfl
theorem Gq (t:ByteArray) (ts:List ByteArray) (sa:Option aD) (k cap:Nat) (w:wD) (hs:SlS w sa ts) (hk:k<ts.length) (hl:ts.length<=1000000):
  cF tP 123 #[sL sa k cap,.string t] w fun e w'=>e= rT (.bool (pO (ts.take k) t))/\w=w':=
 OX t sa (ts.take k) k cap w (by simp;omega) (fun i x hx=>hs i x (by
  rw[List.getElem?_take] at hx
  split at hx
  ·exact hx
  ·cases hx)) (by simp;omega)
theorem Gs (h:Int) (ts:List ByteArray) (ta:Option aD) (n tc:Nat) (l p:vL) (w:wD) (hn:n=ts.length) (hs:SlS w ta ts) (hc:n<=tc) (hl:ts.length<=1000000) (hc2:tc<=9223372036854775807):
  cF tP 119 #[.agg #[iN qi h,sL ta n tc,l,p]] w fun e w'=>e= rT (iN qi (fM ts))/\bX w.heap.size w w':=by
 subst hn;have Hs:=lH hs;clear hs
 cases h1:btw (ts.length:Int) 2 4 with
 |false=>
  have H:fM ts=2:=by unfold fM;rw[h1];rfl
  have HH:=lH H;clear H;go_enter Tryd.func119,Tryd.ntmps119
  go_wp2_with (go_at_call 48;refine(c69 _ _ _ _).mono ?_;rintro e w' ⟨rfl,rfl⟩)
  go_ret;exact⟨by rw[HH.out];rfl,(bR _ _).alloc (nR _) _⟩
 |true=>
  have H:fM ts=gG [] ts:=by unfold fM;rw[h1];rfl
  have HH:=lH H;clear H;go_enter Tryd.func119,Tryd.ntmps119
  go_wp2_with (go_at_call 48;refine(c69 _ _ _ _).mono ?_;rintro e w' ⟨rfl,rfl⟩)
  go_loopw [15] (fun i wr=> ∃k:Nat,k<=ts.length/\i= iN qi (k:Int)/\gG [] ts=gG (ts.take k) (ts.drop k)/\bX w.heap.size w wr/\w.heap.size<wr.heap.size/\wr.cell? ⟨w.heap.size,1,none⟩=some (sL ta ts.length tc)) (fun i _=>ts.length-(intOf i).toNat)
  case atStart=>exact⟨0,Nat.zero_le _,rfl,rfl,(bR _ _).alloc (nR _) _,by simp,by go_simp⟩
  case round=>
   obtain⟨k,hk,rfl,hfk,hb,hz,hy1⟩:=hrel;have Hfk:=lH hfk;clear hfk;by_cases hlt:k<ts.length
   ·have hx:ts[k]? =some ts[k]:=lG hlt;obtain⟨b,o,rfl,g0⟩:=(Hs.out.below hb (nR _)) k _ hx;generalize ts[k]=t at *;have hat:=Gn hx;have Hx:=lH hx;clear hx
    cases hno:gB t with
    |false=>
     have H2:gG (ts.take k) (ts.drop k)=4:=by rw[hat,hno];rfl
     have HH2:=lH H2;clear H2 hat
     go_wp2_with (go_at_call 122;refine(Gm _ _).mono ?_;rintro e w1 ⟨rfl,hb1⟩)
     go_ret;exact⟨by rw[HH.out,Hfk.out,HH2.out];rfl,hb.trans (hb1.mono (by omega))⟩
    |true=>
     have hz0:w.heap.size<wr.heap.size:=hz
     go_wp2_with fail
     refine(Gm _ _).mono ?_;rintro e w1 ⟨rfl,hb1⟩;have hb2:=hb.trans (hb1.mono (by omega));have hy2:w1.cell? ⟨w.heap.size,1,none⟩=some (sL (some ⟨b,o,none⟩) ts.length tc):=by rw[(ak hb1).1 _ _ hz0];exact hy1
     have hz2:w.heap.size<w1.heap.size:=Nat.lt_of_lt_of_le hz0 hb1.size;have hkc:k<=tc:=by omega
     have Hsw:=lH (Hs.out.below hb2 (nR _));clear hb1 hy1 g0
     cases hdu:pO (ts.take k) t with
     |true=>
      have H2:gG (ts.take k) (ts.drop k)=5:=by rw[hat,hno,hdu];rfl
      have HH2:=lH H2;clear H2 hat
      go_wp2_with (go_at_call 123;refine(Gq t ts _ k _ _ Hsw.out hlt hl).mono ?_;rintro e w2 ⟨rfl,rfl⟩)
      go_ret;exact⟨by rw[HH.out,Hfk.out,HH2.out];rfl,hb2⟩
     |false=>
      have H2:gG (ts.take k) (ts.drop k)=gG (ts.take (k+1)) (ts.drop (k+1)):=by rw[hat,hno,hdu];rfl
      have HH2:=lH H2;clear H2 hat
      go_wp2_with (go_at_call 123;refine(Gq t ts _ k _ _ Hsw.out hlt hl).mono ?_;rintro e w2 ⟨rfl,rfl⟩)
      go_roundw
      case rel=>exact⟨k+1,by omega,by go_num,by rw[Hfk.out,HH2.out],hb2,hz2,hy2⟩
      case measure=>simp[intOf];omega
   ·have hke:ts.length<=k:=by omega
    go_wp2;go_ret;exact⟨by rw[HH.out,Hfk.out,Gp hke];rfl,hb⟩
def bY (last:Int) (i:Nat):List (Int×Int)->Int
 | []=>0
 |x::l=>if (i=0/\x.1≠1)\/x.1<=last then 7 else if 20<x.1\/btw x.2 0 99=false then 1 else bY x.1 (i+1) l
def bJ (l:List (Int×Int)):Int:=if btw l.length 1 3 then bY 0 0 l else 2
def fE (l:List (Int×Int)) (k:Nat):Int:=match k with | 0=>0 |k+1=>((l[k]?).map (·.1)).getD 0
theorem Gt {l:List (Int×Int)} {k:Nat} {x:Int×Int} (h:l[k]? =some x):bY (fE l k) k (l.drop k)=if (k=0/\x.1≠1)\/x.1<=fE l k then 7 else if 20<x.1\/btw x.2 0 99=false then 1 else bY (fE l (k+1)) (k+1) (l.drop (k+1)):=by
 have e:fE l (k+1)=x.1:=by simp[fE,h]
 rw[e];obtain⟨hl,rfl⟩:=lS.1 h
 conv=>lhs;rw[List.drop_eq_getElem_cons hl];unfold bY
theorem Gu {l:List (Int×Int)} {k:Nat} {q:Int} (h:l.length<=k):bY q k (l.drop k)=0:=by rw[List.drop_of_length_le h];rfl
theorem kG (l:List (Int×Int)) (sa:Option aD) (n c:Nat) (w:wD) (hn:n=l.length) (hs:SlB w sa l) (hl:l.length<=1000000):
  cF tP 125 #[sL sa n c] w fun e w'=>e= rT (iN qi (bJ l))/\bX w.heap.size w w':=by
 subst hn;have Hs:=lH hs;clear hs
 cases h1:btw (l.length:Int) 1 3 with
 |false=>
  have H:bJ l=2:=by unfold bJ;rw[h1];rfl
  have HH:=lH H;clear H;go_enter Tryd.func125,Tryd.ntmps125
  go_wp2_with (go_at_call 48;refine(c69 _ _ _ _).mono ?_;rintro e w' ⟨rfl,rfl⟩)
  go_ret;exact⟨by rw[HH.out];rfl,bR _ _⟩
 |true=>
  have H:bJ l=bY 0 0 l:=by unfold bJ;rw[h1];rfl
  have HH:=lH H;clear H;go_enter Tryd.func125,Tryd.ntmps125
  go_wp2_with (go_at_call 48;refine(c69 _ _ _ _).mono ?_;rintro e w' ⟨rfl,rfl⟩)
  go_loopw [3,12] (fun la i wr=> ∃k:Nat,k<=l.length/\i= iN qi (k:Int)/\la= iN qi (fE l k)/\bY 0 0 l=bY (fE l k) k (l.drop k)/\bX w.heap.size w wr) (fun _ i _=>l.length-(intOf i).toNat)
  case atStart=>exact⟨0,Nat.zero_le _,rfl,rfl,rfl,bR _ _⟩
  case round=>
   obtain⟨k,hk,rfl,rfl,hfk,hb⟩:=hrel;have Hfk:=lH hfk;clear hfk;by_cases hlt:k<l.length
   ·have hx:l[k]? =some l[k]:=lG hlt;obtain⟨b,o,rfl,g0,g1⟩:=(Hs.out.below hb (nR _)) k _ hx;have hat:=Gt hx;have hla:fE l (k+1)=(l[k]).1:=by show ((l[k]?).map (·.1)).getD 0=_;rw[hx];rfl
    generalize l[k]=x at *;obtain⟨x,y⟩:=x;simp only at g0 g1 hla hat;have hb2:=hb.trans (((bR _ _).alloc (nR _) (.cells #[iN qi x,iN qi y] 76)).mono hb.size);have Hla:=lH hla;have Hb2:=lH hb2;clear hx hla hb2;generalize fE l k=la at *;by_cases hk0:k=0
    ·have hki:((k:Int)==0)=true:=by simpa using hk0
     have Hk0:=lH hk0;clear hk0;by_cases hx1:x=1
     ·have hxb:(x != 1)=false:=by simpa using hx1
      have Hx1:=lH hx1;clear hx1;by_cases hxl:x<=la
      ·have HH2:=lH (show bY la k (l.drop k)=7 by rw[hat,if_pos (by have:=Hk0.out;have:=Hx1.out;omega)]);clear hat;go_wp2;go_ret;exact⟨by rw[HH.out,Hfk.out,HH2.out];rfl,Hb2.out⟩
      ·skip
       by_cases h20:20<x
       ·have HH2:=lH (show bY la k (l.drop k)=1 by rw[hat,if_neg (by have:=Hk0.out;have:=Hx1.out;omega),if_pos (.inl h20)]);clear hat
        go_wp2_with (go_at_call 48;refine(c69 _ _ _ _).mono ?_;rintro e w' ⟨rfl,rfl⟩)
        go_ret;exact⟨by rw[HH.out,Hfk.out,HH2.out];rfl,Hb2.out⟩
       ·cases hby:btw y 0 99 with
        |false=>
         have HH2:=lH (show bY la k (l.drop k)=1 by rw[hat,if_neg (by have:=Hk0.out;have:=Hx1.out;omega),if_pos (.inr hby)]);clear hat
         go_wp2_with (go_at_call 48;refine(c69 _ _ _ _).mono ?_;rintro e w' ⟨rfl,rfl⟩)
         go_ret;exact⟨by rw[HH.out,Hfk.out,HH2.out];rfl,Hb2.out⟩
        |true=>
         have HH2:=lH (show bY la k (l.drop k)=bY (fE l (k+1)) (k+1) (l.drop (k+1)) by rw[hat,if_neg (by have:=Hk0.out;have:=Hx1.out;omega),if_neg (by rw[hby];simp;omega)]);clear hat
         go_wp2_with (go_at_call 48;refine(c69 _ _ _ _).mono ?_;rintro e w' ⟨rfl,rfl⟩)
         go_roundw
         case rel=>exact⟨k+1,by omega,by go_num,by rw[Hla.out],by rw[Hfk.out,HH2.out],Hb2.out⟩
         case measure=>simp[intOf];omega
     ·by_cases hxl:x<=la
      all_goals
       have HH2:=lH (show bY la k (l.drop k)=7 by rw[hat,if_pos (by have:=Hk0.out;omega)]);clear hat;go_wp2;go_ret;exact⟨by rw[HH.out,Hfk.out,HH2.out];rfl,Hb2.out⟩
    ·have hki:((k:Int)==0)=false:=by simpa using hk0
     have Hk0:=lH hk0;clear hk0;by_cases hxl:x<=la
     ·have HH2:=lH (show bY la k (l.drop k)=7 by rw[hat,if_pos (by have:=Hk0.out;omega)]);clear hat;go_wp2;go_ret;exact⟨by rw[HH.out,Hfk.out,HH2.out];rfl,Hb2.out⟩
     ·by_cases h20:20<x
      ·have HH2:=lH (show bY la k (l.drop k)=1 by rw[hat,if_neg (by have:=Hk0.out;omega),if_pos (.inl h20)]);clear hat
       go_wp2_with (go_at_call 48;refine(c69 _ _ _ _).mono ?_;rintro e w' ⟨rfl,rfl⟩)
       go_ret;exact⟨by rw[HH.out,Hfk.out,HH2.out];rfl,Hb2.out⟩
      ·cases hby:btw y 0 99 with
       |false=>
        have HH2:=lH (show bY la k (l.drop k)=1 by rw[hat,if_neg (by have:=Hk0.out;omega),if_pos (.inr hby)]);clear hat
        go_wp2_with (go_at_call 48;refine(c69 _ _ _ _).mono ?_;rintro e w' ⟨rfl,rfl⟩)
        go_ret;exact⟨by rw[HH.out,Hfk.out,HH2.out];rfl,Hb2.out⟩
       |true=>
        have HH2:=lH (show bY la k (l.drop k)=bY (fE l (k+1)) (k+1) (l.drop (k+1)) by rw[hat,if_neg (by have:=Hk0.out;omega),if_neg (by rw[hby];simp;omega)]);clear hat
        go_wp2_with (go_at_call 48;refine(c69 _ _ _ _).mono ?_;rintro e w' ⟨rfl,rfl⟩)
        go_roundw
        case rel=>exact⟨k+1,by omega,by go_num,by rw[Hla.out],by rw[Hfk.out,HH2.out],Hb2.out⟩
        case measure=>simp[intOf];omega
   ·have hke:l.length<=k:=by omega
    go_wp2;go_ret;exact⟨by rw[HH.out,Hfk.out,Gu hke];rfl,hb⟩
end Go.Proofs.YtfiiffnbggnkfaaDoor
