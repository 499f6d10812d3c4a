/- A part of the proof of a law; no conditions of its own. -/
import Derived.Test.YtaikibfkggglgaaDoorYear02
set_option maxRecDepth 100000
open Nat renaming le_refl→nR
open Go.Proofs.Tryd renaming prog→tP
open List renaming getElem?_eq_getElem→lG
open Option.some renaming injEq→oI
set_option maxHeartbeats 4000000
namespace Go.Proofs.YtaikibfkggglgaaDoor
open Go.RowKit Go.Rent Go.Tp Go.Conc
structure Alike (A B:Bk):Prop where
 hours:B.hours=A.hours
 towns:B.towns=A.towns
 links:B.links=A.links
 len:B.pairs.length=A.pairs.length
 one: ∀i,B.pone i=A.pone i
 two: ∀i,B.ptwo i=A.ptwo i
theorem Alike.direct {A B:Bk} (s:Alike A B) (a b:Int):B.direct a b=A.direct a b:=by
 have h1: ∀n i,B.directFrom a b n i=A.directFrom a b n i:=by
  intro n
  induction n with
  |zero=>intro i;rfl
  |succ n ih=>
   intro i;unfold Bk.directFrom;rw[show B.one i=A.one i by unfold Bk.one;rw[s.links],show B.two i=A.two i by unfold Bk.two;rw[s.links],ih]
 unfold Bk.direct;rw[h1,s.links,show B.spokes=A.spokes by unfold Bk.spokes;rw[s.towns]]
theorem Alike.spokes {A B:Bk} (s:Alike A B):B.spokes=A.spokes:=by unfold Bk.spokes;rw[s.towns]
theorem Alike.ld {A B:Bk} (s:Alike A B) (T c:Nat->Int) (k:Nat): ∀n,adu B T c k n=adu A T c k n
 | 0=>rfl
 |n+1=>by
  unfold adu;rw[s.ld T c k n,s.one,s.two];unfold incr adr;rw[s.direct]
theorem Alike.cost {A B:Bk} (s:Alike A B) (T:Nat->Int): ∀n,fZ B T n=fZ A T n:=by
 intro n
 induction n with
 |zero=>rfl
 |succ n ih=>
  unfold fZ;rw[ih];unfold bH;rw[s.links]
theorem agE {A B:Bk} (s:Alike A B) (hA:A.alarm=0) (hB:B.alarm=0) {T:Nat->Int} (hT: ∀k,0<=T k) (most:Bool) (h:Nat) (hc: ∀i,i<A.pairs.length->A.call most h i<=B.call most h i) (k:Nat):A.inn T most h k<=B.inn T most h k:=by
 rw[aeE hA,aeE hB,s.len,s.ld];exact aeF hT hc k _ (nR _)
def agl (A B:Bk):Prop:= ∀h i,A.call true h i<=B.call true h i
theorem agF {A B:Bk} (s:Alike A B) (hA:A.alarm=0) (hB:B.alarm=0) {T:Nat->Int} (hT: ∀k,0<=T k) (most:Bool) {h:Nat} (hc: ∀i,A.call most h i<=B.call most h i) (hl:B.lackIn T most h<0):A.lackIn T most h<0:=by
 rw[vC] at hl ⊢;intro j hj;have h1:=hl j (by rw[s.spokes];exact hj);have h2:=agE s hA hB hT most h (fun i _=>hc i) j;omega
theorem agm {A B:Bk} (s:Alike A B) (hA:A.alarm=0) (hB:B.alarm=0) {T:Nat->Int} (hT: ∀k,0<=T k) (hc:agl A B) (h:aQ B T B.hours.toNat 0 1=1):aQ A T A.hours.toNat 0 1=1:=by
 rw[ae2 hA hT];rw[ae2 hB hT] at h;intro g hg;exact agF s hA hB hT true (hc g) (h g (by rw[s.hours];exact hg))
theorem agG {A B:Bk} (s:Alike A B) (hA:A.alarm=0) (hB:B.alarm=0) (hc:agl A B):(aC A aT).2<=(aC B aT).2:=by
 obtain⟨h1,h2,h3,h4⟩:=adK (B:=B) (may:=aT) hB;obtain⟨_,h5,h6⟩:=nN h1;have h7:=agm s hA hB (T:=trk (aC B aT).1) (fun k=>(lZ h6 k).1) hc h3;have h8:=adS (B:=A) (may:=aT) (gY hA) (xs:=(aC B aT).1) (by rw[h5,s.links]) h6 (fun _ _ h=>by cases h) h7;have h9:=aer h8;unfold adt at h9;rw[h4,s.cost,s.links];exact h9
theorem agH (B:Bk) (T:Nat->Int):jk B T=true↔ ∀h,h<B.hours.toNat->B.lackIn T true h<0:=by
 unfold jk qU;simp only[Bool.not_eq_true',List.any_eq_false,List.mem_map,List.mem_range,decide_eq_true_eq];constructor
 ·intro h g hg;have:=h _ ⟨g,hg,rfl⟩;simp only at this;omega
 ·rintro h x ⟨g,hg,rfl⟩;have:=h g hg;simp only;omega
theorem agc {B:Bk} (hB:B.alarm=0) {T:Nat->Int} (hT: ∀k,0<=T k):jk B T=true↔aQ B T B.hours.toNat 0 1=1:=by
 rw[agH,ae2 hB hT]
def agd (p q:Pr):Prop:=q.one=p.one/\q.two=p.two/\q.calls.length=p.calls.length/\ ∀(m:Nat) (x y:Int×Int),p.calls[m]? =some x->q.calls[m]? =some y->0<=x.1/\x.1<=x.2/\x.1<=y.1/\x.2<=y.2
structure Dom (A B:Bk):Prop where
 hours:B.hours=A.hours
 towns:B.towns=A.towns
 links:B.links=A.links
 len:B.pairs.length=A.pairs.length
 at_: ∀(i:Nat) (p q:Pr),A.pairs[i]? =some p->B.pairs[i]? =some q->agd p q
theorem afZ {α β:Type} {l:List α} {m:List β} (h:m.length=l.length) (i:Nat):(∃x y,l[i]? =some x/\m[i]? =some y)\/(l[i]? =none/\m[i]? =none):=by
 by_cases hi:i<l.length
 ·exact .inl ⟨_,_,lG hi,lG (by omega)⟩
 ·exact .inr ⟨List.getElem?_eq_none (by omega),List.getElem?_eq_none (by omega)⟩
theorem Dom.alike {A B:Bk} (d:Dom A B):Alike A B:=by
 refine⟨d.hours,d.towns,d.links,d.len,fun i=> ?_,fun i=> ?_⟩
 all_goals
  rcases afZ d.len i with ⟨p,q,h1,h2⟩ |⟨h1,h2⟩
 ·unfold Bk.pone;rw[h1,h2];exact(d.at_ i p q h1 h2).1
 ·unfold Bk.pone;rw[h1,h2]
 ·unfold Bk.ptwo;rw[h1,h2];exact(d.at_ i p q h1 h2).2.1
 ·unfold Bk.ptwo;rw[h1,h2]
theorem Dom.calls {A B:Bk} (d:Dom A B) (most:Bool) (h i:Nat):A.call most h i<=B.call most h i:=by
 unfold Bk.call
 rcases afZ d.len i with ⟨p,q,h1,h2⟩ |⟨h1,h2⟩
 ·obtain⟨_,_,hl,hc⟩:=d.at_ i p q h1 h2;rw[h1,h2];simp only[Option.bind_some]
  rcases afZ hl h with ⟨x,y,g1,g2⟩ |⟨g1,g2⟩
  ·have:=hc h x y g1 g2;rw[g1,g2]
   cases most<;>simp<;>omega
  ·rw[g1,g2];simp
 ·rw[h1,h2];simp
theorem agI {p q:Pr} (h:agd p q) (hb:jc q.calls=false):jc p.calls=false:=by
 obtain⟨_,_,hl,hc⟩:=h;unfold jc at *;rw[List.any_eq_false] at *;intro x hx;obtain⟨m,hm,rfl⟩:=List.getElem_of_mem hx;have h1:=lG hm;have h2:=lG (show m<q.calls.length by omega);have h3:=hc m _ _ h1 h2;have h4:=hb _ (List.getElem_mem (show m<q.calls.length by omega));simp only[dw,Bool.not_eq_true',decide_eq_false_iff_not,Decidable.not_not] at *;omega
theorem agn {nt hours:Int}: ∀(ps qs:List Pr) (S:List (Int×Int)),qs.length=ps.length->(∀(i:Nat) (p q:Pr),ps[i]? =some p->qs[i]? =some q->agd p q)->fP nt hours S qs=0->fP nt hours S ps=0
 | [],_,_,_,_,_=>rfl
 |p::ps,[],_,h,_,_=>by simp at h
 |p::ps,q::qs,S,h,hp,h0=>by
  have h1:=hp 0 p q rfl rfl;have h1':=h1;obtain⟨e1,e2,e3,_⟩:=h1;unfold fP at h0 ⊢;rw[e1,e2,e3] at h0
  split at h0
  ·cases h0
  rename_i c1;rw[if_neg c1]
  split at h0
  ·cases h0
  rename_i c2;rw[if_neg c2]
  split at h0
  ·cases h0
  rename_i c3;rw[if_neg c3]
  split at h0
  ·rename_i c4;rw[if_pos c4]
   split at h0
   ·cases h0
   rename_i c5;rw[if_neg (by rw[agI h1' (by simpa using c5)];decide)];exact agn ps qs _ (by simpa using h) (fun i a b ha hb=>hp (i+1) a b (by simpa using ha) (by simpa using hb)) h0
  ·cases h0
theorem agp {nt hours:Int}: ∀(ps qs:List Pr) (S:List (Int×Int)),qs.length=ps.length->(∀(i:Nat) (p q:Pr),ps[i]? =some p->qs[i]? =some q->q.one=p.one/\q.two=p.two/\q.calls.length=p.calls.length)->fP nt hours S ps=0->fP nt hours S qs=0\/fP nt hours S qs=1
 | [],[],_,_,_,_=> .inl rfl
 | [],q::qs,_,h,_,_=>by simp at h
 |p::ps,[],_,h,_,_=>by simp at h
 |p::ps,q::qs,S,h,hp,h0=>by
  obtain⟨e1,e2,e3⟩:=hp 0 p q rfl rfl;unfold fP at h0 ⊢;rw[e1,e2,e3]
  split at h0
  ·cases h0
  rename_i c1;rw[if_neg c1]
  split at h0
  ·cases h0
  rename_i c2;rw[if_neg c2]
  split at h0
  ·cases h0
  rename_i c3;rw[if_neg c3]
  split at h0
  ·rename_i c4;rw[if_pos c4]
   split at h0
   ·cases h0
   by_cases c6:jc q.calls=true
   ·rw[if_pos c6];exact .inr rfl
   ·rw[if_neg c6];exact agp ps qs _ (by simpa using h) (fun i a b ha hb=>hp (i+1) a b (by simpa using ha) (by simpa using hb)) h0
  ·cases h0
theorem agq {B:Bk} (h0:iZ B.hours=0) (h1:fM B.towns=0) (h2:dA B.towns.length B.links=0):B.alarm=dR B.towns.length B.hours B.pairs:=by
 unfold Bk.alarm;simp only[kH,alK];rw[if_pos h0,if_pos h1,if_pos h2]
 split
 ·rename_i h;exact h.symm
 ·rfl
theorem Dom.alarm {A B:Bk} (d:Dom A B) (h:B.alarm=0):A.alarm=0:=by
 obtain⟨h0,h1,h2,h3⟩:=GX h;rw[d.hours] at h0 h3;rw[d.towns] at h1 h2 h3;rw[d.links] at h2;rw[agq h0 h1 h2];unfold dR at h3 ⊢;rw[d.len] at h3
 split at h3
 ·cases h3
 ·rename_i c;rw[if_neg c];exact agn _ _ _ d.len d.at_ h3
theorem agJ {A B:Bk} (hA:A.alarm=0) (e1:B.hours=A.hours) (e2:B.towns=A.towns) (e3:B.links=A.links) (e4:B.pairs.length=A.pairs.length) (e5: ∀(i:Nat) (p q:Pr),A.pairs[i]? =some p->B.pairs[i]? =some q->q.one=p.one/\q.two=p.two/\q.calls.length=p.calls.length):B.alarm=0\/B.alarm=1:=by
 obtain⟨h0,h1,h2,h3⟩:=GX hA;rw[agq (by rw[e1];exact h0) (by rw[e2];exact h1) (by rw[e2,e3];exact h2),e1,e2];unfold dR at h3 ⊢;rw[e4]
 split at h3
 ·cases h3
 ·rename_i c;rw[if_neg c];exact agp _ _ _ e4 e5 h3
theorem agf (B:Bk) (p:Int) (i:Nat):(bQ B p).pairs[i]? =(B.pairs[i]?).map fun q=>{q with calls:=q.calls.map (upB p)}:=by simp[bQ]
theorem af0 (B:Bk) (p:Int):(bQ B p).pairs.length=B.pairs.length:=by simp[bQ]
theorem agK {B:Bk} (hB:B.alarm=0) (p:Int):(bQ B p).alarm=0\/(bQ B p).alarm=1:=by
 refine agJ hB rfl rfl rfl (af0 B p) fun i x y hx hy=> ?_;rw[agf,hx] at hy;simp only[Option.map_some,oI] at hy;subst hy;exact⟨rfl,rfl,by simp⟩
theorem af2 {x y p q:Int} (hx:0<=x) (hxy:x<=y) (hp:0<=p) (hpq:p<=q):0<=upC x p/\upC x p<=upC y q/\x<=upC x p:=by
 have h1:x*(100+p)<=y*(100+q):=Int.mul_le_mul hxy (by omega) (by omega) (by omega);have h2:x*100<=x*(100+p):=Int.mul_le_mul_of_nonneg_left (by omega) hx;unfold upC;omega
theorem agL {A B:Bk} (d:Dom A B) {p q:Int} (hp:0<=p) (hpq:p<=q):Dom (bQ A p) (bQ B q):=by
 refine⟨d.hours,d.towns,d.links,by rw[af0,af0,d.len],fun i x y hx hy=> ?_⟩;rw[agf] at hx hy
 rcases afZ d.len i with ⟨a,b,h1,h2⟩ |⟨h1,h2⟩
 ·obtain⟨e1,e2,e3,e4⟩:=d.at_ i a b h1 h2;rw[h1] at hx;rw[h2] at hy;simp only[Option.map_some,oI] at hx hy;subst hx hy;refine⟨e1,e2,by simp[e3],fun m u v hu hv=> ?_⟩;simp only[List.getElem?_map] at hu hv
  rcases afZ e3 m with ⟨u0,v0,g1,g2⟩ |⟨g1,_⟩
  ·have:=e4 m u0 v0 g1 g2;rw[g1] at hu;rw[g2] at hv;simp only[Option.map_some,oI] at hu hv;subst hu hv;have h1:=af2 (x:=u0.1) (y:=u0.2) this.1 this.2.1 hp (Int.le_refl p);have h2:=af2 (x:=u0.1) (y:=v0.1) this.1 this.2.2.1 hp hpq;have h3:=af2 (x:=u0.2) (y:=v0.2) (by omega) this.2.2.2 hp hpq;simp only[upB];omega
  ·rw[g1] at hu;cases hu
 ·rw[h1] at hx;cases hx
theorem agM {A:Bk} (hA:A.alarm=0):Dom A A:=by
 refine⟨rfl,rfl,rfl,rfl,fun i p q hp hq=> ?_⟩;rw[hp] at hq
 cases hq
 refine⟨rfl,rfl,rfl,fun m x y hx hy=> ?_⟩;rw[hx] at hy
 cases hy
 have:=((gY hA).fine.calls i p hp).2 m x hx;omega
theorem agr {A:Bk} (hA:A.alarm=0) {p:Int} (hp:0<=p):Dom A (bQ A p):=by
 refine⟨rfl,rfl,rfl,af0 A p,fun i x y hx hy=> ?_⟩;rw[agf,hx] at hy;simp only[Option.map_some,oI] at hy;subst hy;refine⟨rfl,rfl,by simp,fun m u v hu hv=> ?_⟩;simp only[List.getElem?_map,hu,Option.map_some,oI] at hv;subst hv;have h0:=((gY hA).fine.calls i x hx).2 m u hu;have h1:=af2 (x:=u.1) (y:=u.1) h0.1 (Int.le_refl _) hp (Int.le_refl p);have h2:=af2 (x:=u.2) (y:=u.2) (by omega) (Int.le_refl _) hp (Int.le_refl p);simp only[upB];omega
theorem agN {A B:Bk} (d:Dom A B) (hB:B.alarm=0) {T:Nat->Int} (hT: ∀k,0<=T k) (h:jk B T=true):jk A T=true:=by
 have hA:=d.alarm hB;rw[agc hA hT];rw[agc hB hT] at h;exact agm d.alike hA hB hT (fun g i=>d.calls true g i) h
theorem af5 (T:Nat->Int) (p:Int): ∀(f k:Nat) (B:Bk) (y:Nat),tY T p f k B=some y->k<=y/\y<k+f
 | 0,_,_,_,h=>by cases h
 |f+1,k,B,y,h=>by
  unfold tY at h
  split at h
  ·have:=af5 T p f (k+1) _ y h;omega
  ·cases h;omega
theorem ags {T:Nat->Int} (hT: ∀k,0<=T k) {p q:Int} (hp:0<=p) (hpq:p<=q): ∀(f k:Nat) (A B:Bk) (y:Nat),Dom A B->tY T p f k A=some y-> ∃z,tY T q f k B=some z/\z<=y
 | 0,_,_,_,_,_,h=>by cases h
 |f+1,k,A,B,y,d,h=>by
  have hb:=af5 T p (f+1) k A y h;unfold tY at h ⊢;by_cases c:B.alarm=0/\jk B T=true
  ·rw[if_pos c];rw[if_pos ⟨d.alarm c.1,agN d c.1 hT c.2⟩] at h;exact ags hT hp hpq f (k+1) _ _ y (agL d hp hpq) h
  ·rw[if_neg c];exact⟨k,rfl,hb.1⟩
noncomputable def afR:Code:=Tryd.f10.body.getD .skip
noncomputable def af6:Code:=match afR with
 | .seq _ (.seq (.seq _ c) _)=>c
 |_=> .skip
noncomputable def afT:Code:=match afR with
 | .seq _ (.seq _ c)=>c
 |_=> .skip
noncomputable def afW:Code:=match afT with
 | .seq _ (.seq _ (.seq _ (.seq _ (.seq _ (.seq _ c)))))=>c
 |_=> .skip
noncomputable def yn8:Code:=match afT with
 | .seq _ (.seq _ (.seq _ (.seq _ (.seq _ (.seq c _)))))=>c
 |_=> .skip
noncomputable def afV:Code:=match afW with
 | .seq _ (.seq _ (.seq _ (.seq (.seq _ (.block _ (.loop c))) _)))=>c
 |_=> .skip
noncomputable def agh:Code:=match afW with
 | .seq _ (.seq _ (.seq _ (.seq _ c)))=>c
 |_=> .skip
noncomputable def afX:Code:=match afV with
 | .seq _ (.seq (.block _ c) _)=>c
 |_=> .skip
noncomputable def agt:Code:=match afX with
 | .seq _ (.seq _ (.seq _ (.seq _ c)))=>c
 |_=> .skip
noncomputable def ag2:Code:=match afV with
 | .seq _ (.seq _ c)=>c
 |_=> .skip
noncomputable def agu:Code:=match afX with
 | .seq _ (.seq _ (.seq (.seq _ (.cond _ c _)) _))=>c
 |_=> .skip
noncomputable def agv:Code:=match agt with
 | .seq _ (.seq (.seq _ (.cond _ c _)) _)=>c
 |_=> .skip
noncomputable def agw:Code:=match afX with
 | .seq _ (.seq _ (.seq _ (.seq c _)))=>c
 |_=> .skip
def zeroV:BkV:=⟨none,none,none,0,0,0⟩
def af7:Bk:=⟨0,[],[],[]⟩
section
variable {u:World} {b1:Nat} {V:BkV} {B:Bk} {xs:List Int} {xa:Option Addr} {xc n:Nat} {p:Int}
theorem agO (hB:dL u b1 V B) (hpc:V.pa=none->V.pc=0) (hA:B.alarm=0) (hp:0<=p/\p<=100):
    iK tP 48 #[V.val B,.int .i64 p] u fun v w'=>(((bQ B p).alarm=0/\ ∃V' O,v= .tuple #[V'.val (bQ B p),.int .i64 0]/\bI w' u.heap.size V' (bQ B p) O)\/((bQ B p).alarm=1/\v= .tuple #[zeroV.val af7,.int .i64 1]))/\Kept u.heap.size u w':=by
  have hbp:btw p 0 100=true:=by simp[btw];omega
  exact acs (X:=fun v w'=>((bQ B p).alarm=0/\ ∃V' O,v= .tuple #[V'.val (bQ B p),.int .i64 0]/\bI w' u.heap.size V' (bQ B p) O)\/((bQ B p).alarm=1/\v= .tuple #[zeroV.val af7,.int .i64 1])) (fun v w w' h k=>by
      rcases h with ⟨h,V',O,e,ho⟩ |h
      · exact .inl ⟨h,V',O,e,ho.kept k⟩
      · exact .inr h) fun τ=>by
    rcases agK hA p with h |h
    · refine(aaP V B p (u.tp τ 0 noJ) (hB.kept jD).book (hB.kept jD).vars hpc hA hbp h).mono fun e w' ⟨V',O,e1,ho,hb⟩=>⟨_,e1,.inl ⟨h,V',O,by rw[aaO],by rwa [jO] at ho⟩,hb⟩
    · exact(agA V B p (u.tp τ 0 noJ) (hB.kept jD).book (hB.kept jD).vars hpc hA hbp h).mono fun e w' ⟨e1,hb⟩=>⟨_,e1,.inr ⟨h,rfl⟩,hb⟩
theorem agP (hB:dL u b1 V B) (hz: ∀t∈B.towns,t.size<=100) (hA:B.alarm=0):iK tP 20 #[V.val B] u fun v w'=>v= .int .i64 0/\Kept u.heap.size u w':=
 acs (X:=fun v _=>v= .int .i64 0) (fun _ _ _ h _=>h) fun τ=>(c20 V B _ (hB.kept jD).book fun t ht=>Nat.le_trans (hz t ht) (by decide)).mono fun _ _ ⟨e1,hb⟩=>⟨_,e1,by rw[hA],hb⟩
theorem agx (hB:dL u b1 V B) (hpc:V.pa=none->V.pc=0) (hx:SlI u xa xs) (hl:xs.length=B.links.length) (hL:B.links.length<=1000000) (hr:aH B xs true=0) (hp:0<=p/\p<=100):
  iK tP 47 #[V.val B,.slice xa B.links.length xc,.int .i64 p] u fun v w'=>v=aaQ (tY (trk xs) p 7 0 B)/\Kept u.heap.size u w':=by
 have h:=aa7 u V B xs xa xc p hB.book hB.rows hpc hB.vars hx (by omega) hr (by simp[btw];omega);rw[hl] at h;exact h.mono fun v w' ⟨e,k⟩=>⟨e,k⟩
theorem agQ (hn:B.links.length=n) (hB:dL u b1 V B) (hx:SlI u xa xs) (hl:xs.length=n) (hL:n<=1000000) (hr:aH B xs true=0):iK tP 21 #[V.val B,.slice xa n xc] u fun v w'=>v= .tuple #[.int .i64 (aQ B (trk xs) B.hours.toNat 0 1),.int .i64 0]/\Kept u.heap.size u w':=by
 subst hn;exact acN hB hx hl hL hr
end
def agy (y:Int) (fd:Bool) (o:Option Nat):Prop:=(fd=true/\ ∃k:Nat,y=k/\o=some k)\/(fd=false/\y=0/\o=none)
theorem agz (o:Option Nat): ∃(y:Int) (fd:Bool),aaQ o= .tuple #[.int .i64 y,.bool fd,.int .i64 0]/\agy y fd o:=by
 cases o with
 |none=>exact⟨0,false,rfl,.inr ⟨rfl,rfl,rfl⟩⟩
 |some k=>exact⟨k,true,rfl,.inl ⟨rfl,k,rfl,rfl⟩⟩
theorem af4 {w w':World} {b:Nat} (h:afU w b) (hk:Kept w.heap.size w w'):afU w' b:=by
 obtain⟨⟨⟨v0,c0⟩,⟨v1,c1⟩,⟨v2,c2⟩,⟨v3,c3⟩⟩,hl,hf⟩:=h;exact⟨⟨⟨v0,dV hk (nR _) c0⟩,⟨v1,dV hk (nR _) c1⟩,⟨v2,dV hk (nR _) c2⟩,⟨v3,dV hk (nR _) c3⟩⟩,Nat.lt_of_lt_of_le hl hk.size,fun j=>by rw[hk.frozen (p:=⟨b,j,none⟩) hl];exact hf j⟩
theorem agR {w:World} {b:Nat} (h:afU w b) (V:BkV) (B:Bk):afU (afS w b V B) b:=by
 obtain⟨c0,c1,c2,c3,hl,hf⟩:=af8 h V B;exact⟨⟨⟨_,c0⟩,⟨_,c1⟩,⟨_,c2⟩,⟨_,c3⟩⟩,hl,hf⟩
theorem agS {w0:World} {V:BkV} {B:Bk} {b1 i:Nat} {kk:List Item} (a:Act) (w:World) (hB:dL w b1 V B) (hk0:Kept w0.heap.size w0 w) (hS:Sl a 200 [(22,.int .i64 (i:Int)),(12,.int .i64 (i:Int)),(13,.bool true),(4,.pointer (some ⟨b1,0,none⟩))]):
  GL tP 10 (.code agu::kk) (mY w0) a w:=by
 simp only[agu,afX,afV,afW,afT,afR,Tryd.f10,Option.getD_some];refine kV good (oJ good ?_);refine aU (.bool true) hS (fun a hS=> ?_);refine aU (.bool true) hS (fun a hS=> ?_);refine aU (.int .i64 (i:Int)) hS (fun a hS=> ?_) (hw:=FM (dd:=115) rfl rfl (by rw[hS.1];decide) hS.2.2.1);refine aU (.int .i64 (i:Int)) hS (fun a hS=> ?_) (hw:=FM (dd:=115) rfl rfl (by rw[hS.1];decide) hS.2.2.2.1);refine aU (.bool true) hS (fun a hS=> ?_) (hw:=FM (dd:=115) rfl rfl (by rw[hS.1];decide) hS.2.2.2.2.1);refine aU (.bool true) hS (fun a hS=> ?_);refine aU (.bool true) hS (fun a hS=> ?_);have hS:Sl a 200 [(120,.bool true)]:=⟨hS.1,hS.2.1,hS.2.2.1,trivial⟩;exact abA (N:=200) (i:=7) (p:=120) FI Tryd.func10 rfl rfl rfl rfl (FM (dd:=120) rfl rfl (by rw[hS.1];decide) hS.2.2.1) rfl rfl rfl rfl rfl rfl rfl rfl (by decide) (by decide) (by decide) (by decide) ⟨hS.1,hS.2.1,hS.2.2.1,trivial⟩ hB.vars hk0
theorem agT {w0:World} {V:BkV} {B:Bk} {b1 i:Nat} {y:Int} {fd:Bool} {kk:List Item} (hi:i<=6) (hy:(i=6/\fd=false)\/(i≠6/\fd=true/\y=((i+1 :Nat):Int))) (a:Act) (w:World) (hB:dL w b1 V B) (hk0:Kept w0.heap.size w0 w) (hS:Sl a 200 [(24,.int .i64 1),(22,.int .i64 (i:Int)),(12,.int .i64 y),(13,.bool fd),(4,.pointer (some ⟨b1,0,none⟩))]):
  GL tP 10 (.code agv::kk) (mY w0) a w:=by
 simp only[agv,agt,afX,afV,afW,afT,afR,Tryd.f10,Option.getD_some];refine kV good (oJ good ?_)
 rcases hy with ⟨rfl,rfl⟩ |⟨h6,rfl,rfl⟩
 ·refine aU (.int .i64 1) hS (fun a hS=> ?_);refine aU (.bool true) hS (fun a hS=> ?_);refine aU (.bool true) hS (fun a hS=> ?_);refine aU (.int .i64 ((6 :Nat):Int)) hS (fun a hS=> ?_) (hw:=FM (dd:=139) rfl rfl (by rw[hS.1];decide) hS.2.2.1);refine aU (.bool true) hS (fun a hS=> ?_) (hw:=FM (dd:=139) rfl rfl (by rw[hS.1];decide) hS.2.2.2.1);refine aU (.bool true) hS (fun a hS=> ?_) (hw:=FM (dd:=139) rfl rfl (by rw[hS.1];decide) hS.2.2.2.2.1);refine aU (.bool false) hS (fun a hS=> ?_) (hw:=FM (dd:=142) rfl rfl (by rw[hS.1];decide) hS.2.2.1);refine aU (.bool true) hS (fun a hS=> ?_) (hw:=FM (dd:=142) rfl rfl (by rw[hS.1];decide) hS.2.2.2.1);refine aU (.bool true) hS (fun a hS=> ?_) (hw:=FM (dd:=139) rfl rfl (by rw[hS.1];decide) hS.2.2.2.2.2.2.2.1);refine aU (.bool true) hS (fun a hS=> ?_) (hw:=FM (dd:=139) rfl rfl (by rw[hS.1];decide) hS.2.2.2.2.2.2.2.2.1);refine acO hS (fun a hS=> ?_) (dd:=146) hS.2.2.1;refine acO hS (fun a hS=> ?_) (dd:=146) hS.2.2.2.1;refine acO hS (fun a hS=> ?_) (dd:=148) hS.2.2.1;refine acO hS (fun a hS=> ?_) (dd:=148) hS.2.2.2.1;refine acO hS (fun a hS=> ?_) (dd:=148) hS.2.2.2.2.1;refine acO hS (fun a hS=> ?_) (dd:=148) hS.2.2.2.2.2.1;refine acO hS (fun a hS=> ?_) (dd:=146) hS.2.2.2.2.2.2.2.2.1;refine aU (.bool true) hS (fun a hS=> ?_) (hw:=FM (dd:=139) rfl rfl (by rw[hS.1];decide) hS.2.2.2.2.2.2.2.2.2.2.2.2.2.2.2.2.1);refine aU (.bool true) hS (fun a hS=> ?_);refine aU (.bool true) hS (fun a hS=> ?_);have hS:Sl a 200 [(156,.bool true)]:=⟨hS.1,hS.2.1,hS.2.2.1,trivial⟩;exact abA (N:=200) (i:=20) (p:=156) FI Tryd.func10 rfl rfl rfl rfl (FM (dd:=156) rfl rfl (by rw[hS.1];decide) hS.2.2.1) rfl rfl rfl rfl rfl rfl rfl rfl (by decide) (by decide) (by decide) (by decide) ⟨hS.1,hS.2.1,hS.2.2.1,trivial⟩ hB.vars hk0
 ·have h6n: ¬(i:Int)=6:=by omega
  refine aU (.int .i64 1) hS (fun a hS=> ?_);refine aU (.bool true) hS (fun a hS=> ?_);refine aU (.bool true) hS (fun a hS=> ?_);refine aU (.int .i64 (i:Int)) hS (fun a hS=> ?_) (hw:=FM (dd:=139) rfl rfl (by rw[hS.1];decide) hS.2.2.1);refine aU (.bool false) hS (fun a hS=> ?_) (hw:=FM (dd:=139) rfl rfl (by rw[hS.1];decide) hS.2.2.2.1) (hr:=by intro τ;have h:=(‹Sl _ _ _›).2.2;simp only[SlA] at h;simp[go_sem,h,h6n]);refine aU (.bool false) hS (fun a hS=> ?_) (hw:=FM (dd:=139) rfl rfl (by rw[hS.1];decide) hS.2.2.2.2.1);refine acO hS (fun a hS=> ?_) (dd:=142) hS.2.2.1;refine acO hS (fun a hS=> ?_) (dd:=142) hS.2.2.2.1;refine aU (.bool false) hS (fun a hS=> ?_) (hw:=FM (dd:=139) rfl rfl (by rw[hS.1];decide) hS.2.2.2.2.2.2.2.1);refine aU (.bool false) hS (fun a hS=> ?_) (hw:=FM (dd:=139) rfl rfl (by rw[hS.1];decide) hS.2.2.2.2.2.2.2.2.1);refine aU (.bool true) hS (fun a hS=> ?_) (hw:=FM (dd:=146) rfl rfl (by rw[hS.1];decide) hS.2.2.1);refine aU (.bool true) hS (fun a hS=> ?_) (hw:=FM (dd:=146) rfl rfl (by rw[hS.1];decide) hS.2.2.2.1);refine aU (.int .i64 ((i+1 :Nat):Int)) hS (fun a hS=> ?_) (hw:=FM (dd:=148) rfl rfl (by rw[hS.1];decide) hS.2.2.1);refine aU (.int .i64 (i:Int)) hS (fun a hS=> ?_) (hw:=FM (dd:=148) rfl rfl (by rw[hS.1];decide) hS.2.2.2.1);refine ac1 (k:=i) hS (by omega) (fun a hS=> ?_) (hw:=FM (dd:=148) rfl rfl (by rw[hS.1];decide) hS.2.2.2.2.1) (hs:=hS.2.2.1);refine aU (.bool true) hS (fun a hS=> ?_) (hw:=FM (dd:=148) rfl rfl (by rw[hS.1];decide) hS.2.2.2.2.2.1);refine aU (.bool true) hS (fun a hS=> ?_) (hw:=FM (dd:=146) rfl rfl (by rw[hS.1];decide) hS.2.2.2.2.2.2.2.2.1);refine aU (.bool true) hS (fun a hS=> ?_) (hw:=FM (dd:=139) rfl rfl (by rw[hS.1];decide) hS.2.2.2.2.2.2.2.2.2.2.2.2.2.2.2.2.1);refine aU (.bool true) hS (fun a hS=> ?_);refine aU (.bool true) hS (fun a hS=> ?_);have hS:Sl a 200 [(156,.bool true)]:=⟨hS.1,hS.2.1,hS.2.2.1,trivial⟩;exact abA (N:=200) (i:=20) (p:=156) FI Tryd.func10 rfl rfl rfl rfl (FM (dd:=156) rfl rfl (by rw[hS.1];decide) hS.2.2.1) rfl rfl rfl rfl rfl rfl rfl rfl (by decide) (by decide) (by decide) (by decide) ⟨hS.1,hS.2.1,hS.2.2.1,trivial⟩ hB.vars hk0
theorem agU {R:Value->World->Prop} {kk:List Item} {A B:Bk} {i b1 b2 lb lc:Nat} {p y:Int} {fd:Bool} (hyi: ¬(fd=true/\y=(i:Int))) (a:Act) (w:World) (hS:Sl a 200 [(22,.int .i64 (i:Int)),(21,.pointer (some ⟨b2,0,none⟩)),(19,.int .i64 (aC A aT).2),(9,.slice (some ⟨lb,0,none⟩) B.links.length lc),(10,.int .i64 p),(12,.int .i64 y),(13,.bool fd),(4,.pointer (some ⟨b1,0,none⟩))]) (K: ∀a',Sl a' 200 [(22,.int .i64 (i:Int)),(21,.pointer (some ⟨b2,0,none⟩)),(19,.int .i64 (aC A aT).2),(9,.slice (some ⟨lb,0,none⟩) B.links.length lc),(10,.int .i64 p),(12,.int .i64 y),(13,.bool fd),(4,.pointer (some ⟨b1,0,none⟩))]->GL tP 10 kk R a' w):GL tP 10 (.code agw::kk) R a w:=by
 simp only[agw,afX,afV,afW,afT,afR,Tryd.f10,Option.getD_some]
 cases fd
 ·refine kV good (oJ good ?_);refine aU (.bool false) hS (fun a hS=> ?_);refine aU (.bool false) hS (fun a hS=> ?_);refine acO hS (fun a hS=> ?_) (dd:=124) hS.2.2.1;refine acO hS (fun a hS=> ?_) (dd:=124) hS.2.2.2.1;refine acO hS (fun a hS=> ?_) (dd:=124) hS.2.2.2.2.1;refine aU (.bool false) hS (fun a hS=> ?_);refine lY good ?_;refine sO good false (by rw[ev];exact hS.2.2.1) ?_;rw[if_neg (by decide)];refine LM good ?_;have hS:Sl a 200 [(22,.int .i64 (i:Int)),(21,.pointer (some ⟨b2,0,none⟩)),(19,.int .i64 (aC A aT).2),(9,.slice (some ⟨lb,0,none⟩) B.links.length lc),(10,.int .i64 p),(12,.int .i64 y),(13,.bool false),(4,.pointer (some ⟨b1,0,none⟩))]:=⟨hS.1,hS.2.1,hS.2.2.2.2.2.2.2.2.1,hS.2.2.2.2.2.2.2.2.2.1,hS.2.2.2.2.2.2.2.2.2.2.1,hS.2.2.2.2.2.2.2.2.2.2.2.1,hS.2.2.2.2.2.2.2.2.2.2.2.2.1,hS.2.2.2.2.2.2.2.2.2.2.2.2.2.1,hS.2.2.2.2.2.2.2.2.2.2.2.2.2.2.1,hS.2.2.2.2.2.2.2.2.2.2.2.2.2.2.2.1,trivial⟩;exact K a hS
 ·have hne: ¬y=(i:Int):=fun h=>hyi ⟨rfl,h⟩;refine kV good (oJ good ?_);refine aU (.bool true) hS (fun a hS=> ?_);refine aU (.bool true) hS (fun a hS=> ?_);refine aU (.int .i64 y) hS (fun a hS=> ?_) (hw:=FM (dd:=124) rfl rfl (by rw[hS.1];decide) hS.2.2.1);refine aU (.int .i64 (i:Int)) hS (fun a hS=> ?_) (hw:=FM (dd:=124) rfl rfl (by rw[hS.1];decide) hS.2.2.2.1);refine aU (.bool false) hS (fun a hS=> ?_) (hw:=FM (dd:=124) rfl rfl (by rw[hS.1];decide) hS.2.2.2.2.1) (hr:=by intro τ;have h:=(‹Sl _ _ _›).2.2;simp only[SlA] at h;simp[go_sem,h,hne]);refine aU (.bool false) hS (fun a hS=> ?_);refine lY good ?_;refine sO good false (by rw[ev];exact hS.2.2.1) ?_;rw[if_neg (by decide)];refine LM good ?_;have hS:Sl a 200 [(22,.int .i64 (i:Int)),(21,.pointer (some ⟨b2,0,none⟩)),(19,.int .i64 (aC A aT).2),(9,.slice (some ⟨lb,0,none⟩) B.links.length lc),(10,.int .i64 p),(12,.int .i64 y),(13,.bool true),(4,.pointer (some ⟨b1,0,none⟩))]:=⟨hS.1,hS.2.1,hS.2.2.2.2.2.2.2.2.1,hS.2.2.2.2.2.2.2.2.2.1,hS.2.2.2.2.2.2.2.2.2.2.1,hS.2.2.2.2.2.2.2.2.2.2.2.1,hS.2.2.2.2.2.2.2.2.2.2.2.2.1,hS.2.2.2.2.2.2.2.2.2.2.2.2.2.1,hS.2.2.2.2.2.2.2.2.2.2.2.2.2.2.1,hS.2.2.2.2.2.2.2.2.2.2.2.2.2.2.2.1,trivial⟩;exact K a hS
theorem agV {w0 wB:World} {V:BkV} {B:Bk} {xs:List Int} {b1 b2 lb lc:Nat} {p y:Int} {fd:Bool} (hB0:dL wB b1 V B) (hx0:SlI wB (some ⟨lb,0,none⟩) xs) (hxl:xs.length=B.links.length) (hxo:dN xs=false) (hz: ∀t∈B.towns,t.size<=100) (hp:0<=p/\p<=100) (hk00:Kept w0.heap.size w0 wB) (hb2:wB.heap.size<=b2) (hL:B.links.length<=6):
  ∀(m i:Nat) (A:Bk) (Va9:BkV) (a:Act) (w:World),i+m=7->A.alarm=0->A.links=B.links->A.pairs.length=B.pairs.length->A.towns=B.towns->agy y fd (tY (trk xs) p m i A)->dL w b2 Va9 A->afU w b2->(Va9.pa=none->Va9.pc=0)->Kept wB.heap.size wB w->Sl a 200 [(22,.int .i64 (i:Int)),(21,.pointer (some ⟨b2,0,none⟩)),(19,.int .i64 (aC A aT).2),(9,.slice (some ⟨lb,0,none⟩) B.links.length lc),(10,.int .i64 p),(12,.int .i64 y),(13,.bool fd),(4,.pointer (some ⟨b1,0,none⟩))]->
  GL tP 10 [.code afV,.inLoop afV,.inBlock 0,.code agh] (mY w0) a w:=by
 have hT: ∀k,0<=trk xs k:=fun k=>(lZ hxo k).1;intro m
 induction m with
 |zero=>
  intro i A Va9 a w hi hA e1 e2 e3 hY hBA hbx hpc hkw hS;have hB:=hB0.kept hkw;have hx:=hx0.kept hkw;obtain rfl:i=7:=by omega
  obtain⟨rfl,_⟩:fd=false/\True:=by
   rcases hY with ⟨_,k,_,h⟩ |⟨h,_⟩
   ·cases h
   ·exact⟨h,trivial⟩
  have hk0:=hk00.trans (hkw.mono hk00.size);simp only[afV,afW,afT,afR,Tryd.f10,Option.getD_some];refine kV good ?_;refine kV good (oJ good ?_);refine aU (.int .i64 ((7 :Nat):Int)) hS (fun a hS=> ?_);refine aU (.bool false) hS (fun a hS=> ?_);refine lY good ?_;refine sO good false (by rw[ev];exact hS.2.2.1) ?_;rw[if_neg (by decide)];refine YE good (k':= [.code agh]) rfl ?_;simp only[agh,afW,afT,afR,Tryd.f10,Option.getD_some];refine kV good (oJ good ?_);refine aU (.bool false) hS (fun a hS=> ?_);refine aU (.bool true) hS (fun a hS=> ?_);refine aU (.bool true) hS (fun a hS=> ?_);have hS:Sl a 200 [(197,.bool true)]:=⟨hS.1,hS.2.1,hS.2.2.1,trivial⟩;exact abA (N:=200) (i:=3) (p:=197) FI Tryd.func10 rfl rfl rfl rfl (FM (dd:=197) rfl rfl (by rw[hS.1];decide) hS.2.2.1) rfl rfl rfl rfl rfl rfl rfl rfl (by decide) (by decide) (by decide) (by decide) ⟨hS.1,hS.2.1,hS.2.2.1,trivial⟩ hB.vars hk0
 |succ m ih=>
  intro i A Va9 a w hi hA e1 e2 e3 hY hBA hbx hpc hkw hS;have hB:=hB0.kept hkw;have hx:=hx0.kept hkw;have hi6:i<=6:=by omega
  have hi6i:(i:Int)<=6:=by omega
  obtain⟨cl,hcl⟩: ∃c,c=afV:=⟨_,rfl⟩;rw[<-hcl];refine ac2 hcl ?_;have e24:afX=afX:=rfl;simp only[afV,afW,afT,afR,Tryd.f10,Option.getD_some];refine kV good ?_;refine kV good (oJ good ?_);refine aU (.int .i64 (i:Int)) hS (fun a hS=> ?_);refine aU (.bool true) hS (fun a hS=> ?_) (hr:=by intro τ;have h:=(‹Sl _ _ _›).2.2;simp only[SlA] at h;simp[go_sem,h,hi6i]);refine lY good ?_;refine sO good true (by rw[ev];exact hS.2.2.1) ?_;rw[if_pos rfl];refine LM good ?_;have hS:Sl a 200 [(22,.int .i64 (i:Int)),(21,.pointer (some ⟨b2,0,none⟩)),(19,.int .i64 (aC A aT).2),(9,.slice (some ⟨lb,0,none⟩) B.links.length lc),(10,.int .i64 p),(12,.int .i64 y),(13,.bool fd),(4,.pointer (some ⟨b1,0,none⟩))]:=⟨hS.1,hS.2.1,hS.2.2.2.2.1,hS.2.2.2.2.2.1,hS.2.2.2.2.2.2.1,hS.2.2.2.2.2.2.2.1,hS.2.2.2.2.2.2.2.2.1,hS.2.2.2.2.2.2.2.2.2.1,hS.2.2.2.2.2.2.2.2.2.2.1,hS.2.2.2.2.2.2.2.2.2.2.2.1,trivial⟩;refine kV good (LP good ?_);have hrA:=vG hA (by rw[e1];exact hxl) hxo;refine kV good (oJ good ?_);refine BJ hBA hS (fun a hS=> ?_) (hs:=hS.2.2.2.1);refine aU (.slice (some ⟨lb,0,none⟩) B.links.length lc) hS (fun a hS=> ?_);refine pz (agQ (xc:=lc) (by rw[e1]) hBA hx hxl (by omega) hrA) hS ?_;rintro a v u ⟨rfl,hk⟩ hS;have hB:=hB.kept hk;have hx:=hx.kept hk;have hBA:=hBA.kept hk;have hkw:=hkw.trans (hk.mono hkw.size);have hbx:=af4 hbx hk;refine aU (.tuple #[.int .i64 (aQ A (trk xs) A.hours.toNat 0 1),.int .i64 0]) hS (fun a hS=> ?_);refine aU (.int .i64 (aQ A (trk xs) A.hours.toNat 0 1)) hS (fun a hS=> ?_);refine aU (.int .i64 0) hS (fun a hS=> ?_);refine aU (.int .i64 (aQ A (trk xs) A.hours.toNat 0 1)) hS (fun a hS=> ?_);refine aU (.int .i64 0) hS (fun a hS=> ?_);refine lY good ?_;have hS:Sl a 200 [(23,.int .i64 (aQ A (trk xs) A.hours.toNat 0 1)),(24,.int .i64 0),(22,.int .i64 (i:Int)),(21,.pointer (some ⟨b2,0,none⟩)),(19,.int .i64 (aC A aT).2),(9,.slice (some ⟨lb,0,none⟩) B.links.length lc),(10,.int .i64 p),(12,.int .i64 y),(13,.bool fd),(4,.pointer (some ⟨b1,0,none⟩))]:=⟨hS.1,hS.2.1,hS.2.2.2.1,hS.2.2.1,hS.2.2.2.2.2.2.2.2.2.2.1,hS.2.2.2.2.2.2.2.2.2.2.2.1,hS.2.2.2.2.2.2.2.2.2.2.2.2.1,hS.2.2.2.2.2.2.2.2.2.2.2.2.2.1,hS.2.2.2.2.2.2.2.2.2.2.2.2.2.2.1,hS.2.2.2.2.2.2.2.2.2.2.2.2.2.2.2.1,hS.2.2.2.2.2.2.2.2.2.2.2.2.2.2.2.2.1,hS.2.2.2.2.2.2.2.2.2.2.2.2.2.2.2.2.2.1,trivial⟩;refine kV good ?_;refine kV good (oJ good ?_);refine aU (.int .i64 0) hS (fun a hS=> ?_);refine aU (.bool false) hS (fun a hS=> ?_);refine lY good ?_;refine sO good false (by rw[ev];exact hS.2.2.1) ?_;rw[if_neg (by decide)];refine LM good ?_;have hS:Sl a 200 [(23,.int .i64 (aQ A (trk xs) A.hours.toNat 0 1)),(22,.int .i64 (i:Int)),(21,.pointer (some ⟨b2,0,none⟩)),(19,.int .i64 (aC A aT).2),(9,.slice (some ⟨lb,0,none⟩) B.links.length lc),(10,.int .i64 p),(12,.int .i64 y),(13,.bool fd),(4,.pointer (some ⟨b1,0,none⟩))]:=⟨hS.1,hS.2.1,hS.2.2.2.2.1,hS.2.2.2.2.2.2.1,hS.2.2.2.2.2.2.2.1,hS.2.2.2.2.2.2.2.2.1,hS.2.2.2.2.2.2.2.2.2.1,hS.2.2.2.2.2.2.2.2.2.2.1,hS.2.2.2.2.2.2.2.2.2.2.2.1,hS.2.2.2.2.2.2.2.2.2.2.2.2.1,hS.2.2.2.2.2.2.2.2.2.2.2.2.2.1,trivial⟩;have hcar:=agc hA hT;refine kV good ?_;by_cases hc:aQ A (trk xs) A.hours.toNat 0 1=1
  ·refine kV good (oJ good ?_);refine aU (.int .i64 (aQ A (trk xs) A.hours.toNat 0 1)) hS (fun a hS=> ?_);refine aU (.bool false) hS (fun a hS=> ?_) (hr:=by intro τ;have h:=(‹Sl _ _ _›).2.2;simp only[SlA] at h;simp[go_sem,h,hc]);refine lY good ?_;refine sO good false (by rw[ev];exact hS.2.2.1) ?_;rw[if_neg (by decide)];refine LM good ?_;have hS:Sl a 200 [(22,.int .i64 (i:Int)),(21,.pointer (some ⟨b2,0,none⟩)),(19,.int .i64 (aC A aT).2),(9,.slice (some ⟨lb,0,none⟩) B.links.length lc),(10,.int .i64 p),(12,.int .i64 y),(13,.bool fd),(4,.pointer (some ⟨b1,0,none⟩))]:=⟨hS.1,hS.2.1,hS.2.2.2.2.2.1,hS.2.2.2.2.2.2.1,hS.2.2.2.2.2.2.2.1,hS.2.2.2.2.2.2.2.2.1,hS.2.2.2.2.2.2.2.2.2.1,hS.2.2.2.2.2.2.2.2.2.2.1,hS.2.2.2.2.2.2.2.2.2.2.2.1,hS.2.2.2.2.2.2.2.2.2.2.2.2.1,trivial⟩;have hyd:tY (trk xs) p (m+1) i A=tY (trk xs) p m (i+1) (bQ A p):=by
    conv=>lhs;unfold tY
    rw[if_pos ⟨hA,hcar.2 hc⟩]
   rw[hyd] at hY;have hyi: ¬(fd=true/\y=(i:Int)):=fun⟨h1,h2⟩=>by
    rcases hY with ⟨_,k,h3,h4⟩ |⟨h3,_⟩
    ·have:=(af5 (trk xs) p m (i+1) _ k h4).1;omega
    ·rw[h3] at h1;cases h1
   refine kV good (agU hyi a u hS fun a hS=> ?_);have hbl:=hbx.lt;refine kV good (oJ good ?_);refine BJ hBA hS (fun a hS=> ?_) (hs:=hS.2.2.2.1);refine aU (.int .i64 p) hS (fun a hS=> ?_);refine pz (agO (p:=p) hBA hpc hA hp) hS ?_;rintro a gv u ⟨hg,hk⟩ hS;have hB:=hB.kept hk;have hx:=hx.kept hk;have hBA:=hBA.kept hk;have hkw:=hkw.trans (hk.mono hkw.size);have hbx:=af4 hbx hk;have hk0:=hk00.trans (hkw.mono hk00.size)
   rcases hg with ⟨hNA,Vn9,O,rfl,hO⟩ |⟨hNA,rfl⟩
   ·have hgN:=gY hNA;refine aU (.tuple #[Vn9.val (bQ A p),.int .i64 0]) hS (fun a hS=> ?_);refine aU (Vn9.val (bQ A p)) hS (fun a hS=> ?_);refine aU (.int .i64 0) hS (fun a hS=> ?_);refine agb hS (fun a b3 w3 hb3 hk hbK hS=> ?_) hS.2.2.2.1;have hB:=hB.kept hk;have hx:=hx.kept hk;have hBA:=hBA.kept hk;have hkw:=hkw.trans (hk.mono hkw.size);have hbx:=af4 hbx hk;have hO:=hO.kept hk;have hN:=hbK.law hO hgN hB.vars;refine aU (.int .i64 0) hS (fun a hS=> ?_);refine lY good ?_;have hS:Sl a 200 [(25,.pointer (some ⟨b3,0,none⟩)),(24,.int .i64 0),(22,.int .i64 (i:Int)),(21,.pointer (some ⟨b2,0,none⟩)),(19,.int .i64 (aC A aT).2),(9,.slice (some ⟨lb,0,none⟩) B.links.length lc),(10,.int .i64 p),(12,.int .i64 y),(13,.bool fd),(4,.pointer (some ⟨b1,0,none⟩))]:=⟨hS.1,hS.2.1,hS.2.2.2.1,hS.2.2.1,hS.2.2.2.2.2.2.2.2.2.2.1,hS.2.2.2.2.2.2.2.2.2.2.2.1,hS.2.2.2.2.2.2.2.2.2.2.2.2.1,hS.2.2.2.2.2.2.2.2.2.2.2.2.2.1,hS.2.2.2.2.2.2.2.2.2.2.2.2.2.2.1,hS.2.2.2.2.2.2.2.2.2.2.2.2.2.2.2.1,hS.2.2.2.2.2.2.2.2.2.2.2.2.2.2.2.2.1,hS.2.2.2.2.2.2.2.2.2.2.2.2.2.2.2.2.2.1,trivial⟩;refine kV good ?_;refine kV good (oJ good ?_);refine aU (.int .i64 0) hS (fun a hS=> ?_);refine aU (.bool false) hS (fun a hS=> ?_);refine lY good ?_;refine sO good false (by rw[ev];exact hS.2.2.1) ?_;rw[if_neg (by decide)];refine LM good ?_;have hS:Sl a 200 [(25,.pointer (some ⟨b3,0,none⟩)),(22,.int .i64 (i:Int)),(21,.pointer (some ⟨b2,0,none⟩)),(19,.int .i64 (aC A aT).2),(9,.slice (some ⟨lb,0,none⟩) B.links.length lc),(10,.int .i64 p),(12,.int .i64 y),(13,.bool fd),(4,.pointer (some ⟨b1,0,none⟩))]:=⟨hS.1,hS.2.1,hS.2.2.2.2.1,hS.2.2.2.2.2.2.1,hS.2.2.2.2.2.2.2.1,hS.2.2.2.2.2.2.2.2.1,hS.2.2.2.2.2.2.2.2.2.1,hS.2.2.2.2.2.2.2.2.2.2.1,hS.2.2.2.2.2.2.2.2.2.2.2.1,hS.2.2.2.2.2.2.2.2.2.2.2.2.1,hS.2.2.2.2.2.2.2.2.2.2.2.2.2.1,trivial⟩;have hNl:(bQ A p).links.length=B.links.length:=by show A.links.length=_;rw[e1]
    have hNp:(bQ A p).pairs.length=B.pairs.length:=by rw[af0,e2]
    refine kV good ?_;refine kV good (oJ good ?_);refine BJ hN hS (fun a hS=> ?_) (hs:=hS.2.2.1);refine pz (agP hN (by show ∀t∈A.towns,_;rw[e3];exact hz) hNA) hS ?_;rintro a v u ⟨rfl,hk⟩ hS;have hbx:=af4 hbx hk;have hB:=hB.kept hk;have hx:=hx.kept hk;have hBA:=hBA.kept hk;have hN:=hN.kept hk;have hO:=hO.kept hk;have hkw:=hkw.trans (hk.mono hkw.size);refine aU (.bool false) hS (fun a hS=> ?_);refine aU (.bool false) hS (fun a hS=> ?_);refine acT hS hN (fun a hS=> ?_) (hw:=FM (dd:=162) rfl rfl (by rw[hS.1];decide) hS.2.2.1) (hs:=hS.2.2.2.2.2.2.1);refine acX hS hN (fun a hS=> ?_) (hw:=FM (dd:=162) rfl rfl (by rw[hS.1];decide) hS.2.2.2.1) (hs:=hS.2.2.1);refine aU (.int .i64 ((bQ A p).links.length:Int)) hS (fun a hS=> ?_) (hw:=FM (dd:=162) rfl rfl (by rw[hS.1];decide) hS.2.2.2.2.1);refine acT hS hB (fun a hS=> ?_) (hw:=FM (dd:=162) rfl rfl (by rw[hS.1];decide) hS.2.2.2.2.2.1) (hs:=hS.2.2.2.2.2.2.2.2.2.2.2.2.2.2.2.2.2.1);refine acX hS hB (fun a hS=> ?_) (hw:=FM (dd:=162) rfl rfl (by rw[hS.1];decide) hS.2.2.2.2.2.2.1) (hs:=hS.2.2.1);refine aU (.int .i64 (B.links.length:Int)) hS (fun a hS=> ?_) (hw:=FM (dd:=162) rfl rfl (by rw[hS.1];decide) hS.2.2.2.2.2.2.2.1);refine aU (.bool false) hS (fun a hS=> ?_) (hw:=FM (dd:=162) rfl rfl (by rw[hS.1];decide) hS.2.2.2.2.2.2.2.2.1) (hr:=by intro τ;have h:=(‹Sl _ _ _›).2.2;simp only[SlA] at h;simp[go_sem,h,hNl]);refine aU (.bool false) hS (fun a hS=> ?_);refine aU (.bool false) hS (fun a hS=> ?_);refine acU hS hN (fun a hS=> ?_) (hw:=FM (dd:=171) rfl rfl (by rw[hS.1];decide) hS.2.2.1) (hs:=hS.2.2.2.2.2.2.2.2.2.2.2.2.2.2.2.1);refine acY hS hN (fun a hS=> ?_) (hw:=FM (dd:=171) rfl rfl (by rw[hS.1];decide) hS.2.2.2.1) (hs:=hS.2.2.1);refine aU (.int .i64 ((bQ A p).pairs.length:Int)) hS (fun a hS=> ?_) (hw:=FM (dd:=171) rfl rfl (by rw[hS.1];decide) hS.2.2.2.2.1);refine acU hS hB (fun a hS=> ?_) (hw:=FM (dd:=171) rfl rfl (by rw[hS.1];decide) hS.2.2.2.2.2.1) (hs:=hS.2.2.2.2.2.2.2.2.2.2.2.2.2.2.2.2.2.2.2.2.2.2.2.2.2.2.1);refine acY hS hB (fun a hS=> ?_) (hw:=FM (dd:=171) rfl rfl (by rw[hS.1];decide) hS.2.2.2.2.2.2.1) (hs:=hS.2.2.1);refine aU (.int .i64 (B.pairs.length:Int)) hS (fun a hS=> ?_) (hw:=FM (dd:=171) rfl rfl (by rw[hS.1];decide) hS.2.2.2.2.2.2.2.1);refine aU (.bool false) hS (fun a hS=> ?_) (hw:=FM (dd:=171) rfl rfl (by rw[hS.1];decide) hS.2.2.2.2.2.2.2.2.1) (hr:=by intro τ;have h:=(‹Sl _ _ _›).2.2;simp only[SlA] at h;simp[go_sem,h,hNp]);refine aU (.bool false) hS (fun a hS=> ?_);refine lY good ?_;refine sO good false (by rw[ev];exact hS.2.2.1) ?_;rw[if_neg (by decide)];refine LM good ?_;have hS:Sl a 200 [(25,.pointer (some ⟨b3,0,none⟩)),(22,.int .i64 (i:Int)),(21,.pointer (some ⟨b2,0,none⟩)),(19,.int .i64 (aC A aT).2),(9,.slice (some ⟨lb,0,none⟩) B.links.length lc),(10,.int .i64 p),(12,.int .i64 y),(13,.bool fd),(4,.pointer (some ⟨b1,0,none⟩))]:=⟨hS.1,hS.2.1,hS.2.2.2.2.2.2.2.2.2.2.2.2.2.2.2.2.2.2.2.2.2.2.2.1,hS.2.2.2.2.2.2.2.2.2.2.2.2.2.2.2.2.2.2.2.2.2.2.2.2.1,hS.2.2.2.2.2.2.2.2.2.2.2.2.2.2.2.2.2.2.2.2.2.2.2.2.2.1,hS.2.2.2.2.2.2.2.2.2.2.2.2.2.2.2.2.2.2.2.2.2.2.2.2.2.2.1,hS.2.2.2.2.2.2.2.2.2.2.2.2.2.2.2.2.2.2.2.2.2.2.2.2.2.2.2.1,hS.2.2.2.2.2.2.2.2.2.2.2.2.2.2.2.2.2.2.2.2.2.2.2.2.2.2.2.2.1,hS.2.2.2.2.2.2.2.2.2.2.2.2.2.2.2.2.2.2.2.2.2.2.2.2.2.2.2.2.2.1,hS.2.2.2.2.2.2.2.2.2.2.2.2.2.2.2.2.2.2.2.2.2.2.2.2.2.2.2.2.2.2.1,hS.2.2.2.2.2.2.2.2.2.2.2.2.2.2.2.2.2.2.2.2.2.2.2.2.2.2.2.2.2.2.2.1,trivial⟩;refine kV good (oJ good ?_);refine BJ hN hS (fun a hS=> ?_) (hs:=hS.2.2.1);refine pz (acK hN hNA) hS ?_;rintro a v u ⟨⟨fa,fc,rfl,_⟩,hk⟩ hS;have hbx:=af4 hbx hk;have hB:=hB.kept hk;have hx:=hx.kept hk;have hBA:=hBA.kept hk;have hN:=hN.kept hk;have hO:=hO.kept hk;have hkw:=hkw.trans (hk.mono hkw.size);refine aU (.tuple #[.slice (some ⟨fa,0,none⟩) (bQ A p).links.length fc,.int .i64 (aC (bQ A p) aT).2,.int .i64 0]) hS (fun a hS=> ?_);refine aU (.slice (some ⟨fa,0,none⟩) (bQ A p).links.length fc) hS (fun a hS=> ?_);refine aU (.int .i64 (aC (bQ A p) aT).2) hS (fun a hS=> ?_);refine aU (.int .i64 0) hS (fun a hS=> ?_);refine aU (.slice (some ⟨fa,0,none⟩) (bQ A p).links.length fc) hS (fun a hS=> ?_);refine aU (.int .i64 (aC (bQ A p) aT).2) hS (fun a hS=> ?_);refine aU (.int .i64 0) hS (fun a hS=> ?_);refine lY good ?_;have hS:Sl a 200 [(27,.int .i64 (aC (bQ A p) aT).2),(24,.int .i64 0),(25,.pointer (some ⟨b3,0,none⟩)),(22,.int .i64 (i:Int)),(21,.pointer (some ⟨b2,0,none⟩)),(19,.int .i64 (aC A aT).2),(9,.slice (some ⟨lb,0,none⟩) B.links.length lc),(10,.int .i64 p),(12,.int .i64 y),(13,.bool fd),(4,.pointer (some ⟨b1,0,none⟩))]:=⟨hS.1,hS.2.1,hS.2.2.2.1,hS.2.2.1,hS.2.2.2.2.2.2.2.2.2.2.2.1,hS.2.2.2.2.2.2.2.2.2.2.2.2.1,hS.2.2.2.2.2.2.2.2.2.2.2.2.2.1,hS.2.2.2.2.2.2.2.2.2.2.2.2.2.2.1,hS.2.2.2.2.2.2.2.2.2.2.2.2.2.2.2.1,hS.2.2.2.2.2.2.2.2.2.2.2.2.2.2.2.2.1,hS.2.2.2.2.2.2.2.2.2.2.2.2.2.2.2.2.2.1,hS.2.2.2.2.2.2.2.2.2.2.2.2.2.2.2.2.2.2.1,hS.2.2.2.2.2.2.2.2.2.2.2.2.2.2.2.2.2.2.2.1,trivial⟩;have hcost: ¬(aC (bQ A p) aT).2<(aC A aT).2:=by have:=agG (agr hA hp.1).alike hA hNA (fun g i=>(agr hA hp.1).calls true g i);omega
    refine kV good ?_;refine kV good (oJ good ?_);refine aU (.int .i64 0) hS (fun a hS=> ?_);refine aU (.bool false) hS (fun a hS=> ?_);refine aU (.bool false) hS (fun a hS=> ?_);refine aU (.int .i64 (aC (bQ A p) aT).2) hS (fun a hS=> ?_) (hw:=FM (dd:=188) rfl rfl (by rw[hS.1];decide) hS.2.2.1);refine aU (.int .i64 (aC A aT).2) hS (fun a hS=> ?_) (hw:=FM (dd:=188) rfl rfl (by rw[hS.1];decide) hS.2.2.2.1);refine aU (.bool false) hS (fun a hS=> ?_) (hw:=FM (dd:=188) rfl rfl (by rw[hS.1];decide) hS.2.2.2.2.1) (hr:=by intro τ;have h:=(‹Sl _ _ _›).2.2;simp only[SlA] at h;simp[go_sem,h,hcost]);refine aU (.bool false) hS (fun a hS=> ?_);refine lY good ?_;refine sO good false (by rw[ev];exact hS.2.2.1) ?_;rw[if_neg (by decide)];refine LM good ?_;have hS:Sl a 200 [(27,.int .i64 (aC (bQ A p) aT).2),(25,.pointer (some ⟨b3,0,none⟩)),(22,.int .i64 (i:Int)),(21,.pointer (some ⟨b2,0,none⟩)),(19,.int .i64 (aC A aT).2),(9,.slice (some ⟨lb,0,none⟩) B.links.length lc),(10,.int .i64 p),(12,.int .i64 y),(13,.bool fd),(4,.pointer (some ⟨b1,0,none⟩))]:=⟨hS.1,hS.2.1,hS.2.2.2.2.2.2.2.2.2.1,hS.2.2.2.2.2.2.2.2.2.2.2.1,hS.2.2.2.2.2.2.2.2.2.2.2.2.1,hS.2.2.2.2.2.2.2.2.2.2.2.2.2.1,hS.2.2.2.2.2.2.2.2.2.2.2.2.2.2.1,hS.2.2.2.2.2.2.2.2.2.2.2.2.2.2.2.1,hS.2.2.2.2.2.2.2.2.2.2.2.2.2.2.2.2.1,hS.2.2.2.2.2.2.2.2.2.2.2.2.2.2.2.2.2.1,hS.2.2.2.2.2.2.2.2.2.2.2.2.2.2.2.2.2.2.1,hS.2.2.2.2.2.2.2.2.2.2.2.2.2.2.2.2.2.2.2.1,trivial⟩;refine oJ good ?_;refine BJ hN hS (fun a hS=> ?_) (hs:=hS.2.2.2.1);refine aU (.int .i64 (aC (bQ A p) aT).2) hS (fun a hS=> ?_);refine agD hS hbx (fun hS=> ?_) hS.2.2.2.2.2.2.2.1 hS.2.2.2.1;have hS:Sl a 200 [(194,.int .i64 (aC (bQ A p) aT).2),(193,Vn9.val (bQ A p)),(27,.int .i64 (aC (bQ A p) aT).2),(25,.pointer (some ⟨b3,0,none⟩)),(22,.int .i64 (i:Int)),(21,.pointer (some ⟨b2,0,none⟩)),(9,.slice (some ⟨lb,0,none⟩) B.links.length lc),(10,.int .i64 p),(12,.int .i64 y),(13,.bool fd),(4,.pointer (some ⟨b1,0,none⟩))]:=⟨hS.1,hS.2.1,hS.2.2.1,hS.2.2.2.1,hS.2.2.2.2.1,hS.2.2.2.2.2.1,hS.2.2.2.2.2.2.1,hS.2.2.2.2.2.2.2.1,hS.2.2.2.2.2.2.2.2.2.1,hS.2.2.2.2.2.2.2.2.2.2.1,hS.2.2.2.2.2.2.2.2.2.2.2.1,hS.2.2.2.2.2.2.2.2.2.2.2.2.1,hS.2.2.2.2.2.2.2.2.2.2.2.2.2.1,trivial⟩;refine aU (.int .i64 (aC (bQ A p) aT).2) hS (fun a hS=> ?_);refine lY good (YB good (oJ good ?_));have hS:Sl a 200 [(22,.int .i64 (i:Int)),(21,.pointer (some ⟨b2,0,none⟩)),(19,.int .i64 (aC (bQ A p) aT).2),(9,.slice (some ⟨lb,0,none⟩) B.links.length lc),(10,.int .i64 p),(12,.int .i64 y),(13,.bool fd),(4,.pointer (some ⟨b1,0,none⟩))]:=⟨hS.1,hS.2.1,hS.2.2.2.2.2.2.2.1,hS.2.2.2.2.2.2.2.2.1,hS.2.2.1,hS.2.2.2.2.2.2.2.2.2.1,hS.2.2.2.2.2.2.2.2.2.2.1,hS.2.2.2.2.2.2.2.2.2.2.2.1,hS.2.2.2.2.2.2.2.2.2.2.2.2.1,hS.2.2.2.2.2.2.2.2.2.2.2.2.2.1,trivial⟩;refine aU (.int .i64 (i:Int)) hS (fun a hS=> ?_);refine ac1 (k:=i) hS (by omega) (fun a hS=> ?_);have hS:Sl a 200 [(103,.int .i64 ((i+1 :Nat):Int)),(102,.int .i64 (i:Int)),(21,.pointer (some ⟨b2,0,none⟩)),(19,.int .i64 (aC (bQ A p) aT).2),(9,.slice (some ⟨lb,0,none⟩) B.links.length lc),(10,.int .i64 p),(12,.int .i64 y),(13,.bool fd),(4,.pointer (some ⟨b1,0,none⟩))]:=⟨hS.1,hS.2.1,hS.2.2.1,hS.2.2.2.1,hS.2.2.2.2.2.1,hS.2.2.2.2.2.2.1,hS.2.2.2.2.2.2.2.1,hS.2.2.2.2.2.2.2.2.1,hS.2.2.2.2.2.2.2.2.2.1,hS.2.2.2.2.2.2.2.2.2.2.1,hS.2.2.2.2.2.2.2.2.2.2.2.1,trivial⟩;refine aU (.int .i64 ((i+1 :Nat):Int)) hS (fun a hS=> ?_);refine lY good ?_;have hS:Sl a 200 [(22,.int .i64 ((i+1 :Nat):Int)),(21,.pointer (some ⟨b2,0,none⟩)),(19,.int .i64 (aC (bQ A p) aT).2),(9,.slice (some ⟨lb,0,none⟩) B.links.length lc),(10,.int .i64 p),(12,.int .i64 y),(13,.bool fd),(4,.pointer (some ⟨b1,0,none⟩))]:=⟨hS.1,hS.2.1,hS.2.2.1,hS.2.2.2.2.2.1,hS.2.2.2.2.2.2.1,hS.2.2.2.2.2.2.2.1,hS.2.2.2.2.2.2.2.2.1,hS.2.2.2.2.2.2.2.2.2.1,hS.2.2.2.2.2.2.2.2.2.2.1,hS.2.2.2.2.2.2.2.2.2.2.2.1,trivial⟩;rw[hcl];refine YD good ?_;exact ih (i+1) (bQ A p) Vn9 a _ (by omega) hNA (by show A.links=_;exact e1) hNp (by show A.towns=_;exact e3) hY ((af8 hbx Vn9 (bQ A p)).law (agC hO hbl) hgN (hB0.vars.kept (af9 hkw hb2 Vn9 (bQ A p)))) (agR hbx Vn9 (bQ A p)) hO.pc (af9 hkw hb2 Vn9 (bQ A p)) hS
   ·refine aU (.tuple #[zeroV.val af7,.int .i64 1]) hS (fun a hS=> ?_);refine aU (zeroV.val af7) hS (fun a hS=> ?_);refine aU (.int .i64 1) hS (fun a hS=> ?_);refine agb hS (fun a b3 w3 hb3 hk hbK hS=> ?_) hS.2.2.2.1;have hB:=hB.kept hk;have hk0:=hk0.trans (hk.mono hk0.size);refine aU (.int .i64 1) hS (fun a hS=> ?_);refine lY good ?_;have hS:Sl a 200 [(24,.int .i64 1),(22,.int .i64 (i:Int)),(12,.int .i64 y),(13,.bool fd),(4,.pointer (some ⟨b1,0,none⟩))]:=⟨hS.1,hS.2.1,hS.2.2.1,hS.2.2.2.2.2.2.2.2.2.2.1,hS.2.2.2.2.2.2.2.2.2.2.2.2.2.2.2.1,hS.2.2.2.2.2.2.2.2.2.2.2.2.2.2.2.2.1,hS.2.2.2.2.2.2.2.2.2.2.2.2.2.2.2.2.2.1,trivial⟩;refine kV good ?_;refine kV good (oJ good ?_);refine aU (.int .i64 1) hS (fun a hS=> ?_);refine aU (.bool true) hS (fun a hS=> ?_);refine lY good ?_;refine sO good true (by rw[ev];exact hS.2.2.1) ?_;rw[if_pos rfl];have hS:Sl a 200 [(24,.int .i64 1),(22,.int .i64 (i:Int)),(12,.int .i64 y),(13,.bool fd),(4,.pointer (some ⟨b1,0,none⟩))]:=⟨hS.1,hS.2.1,hS.2.2.2.2.1,hS.2.2.2.2.2.1,hS.2.2.2.2.2.2.1,hS.2.2.2.2.2.2.2.1,hS.2.2.2.2.2.2.2.2.1,trivial⟩;refine agT hi6 ?_ a w3 hB hk0 hS;have hnc: ¬((bQ A p).alarm=0/\jk (bQ A p) (trk xs)=true):=fun h=>by have:=h.1;omega
    cases m with
    |zero=>
     rcases hY with ⟨_,k,_,h⟩ |⟨h,_⟩
     ·cases h
     ·exact .inl ⟨by omega,h⟩
    |succ m=>
     refine .inr ⟨by omega, ?_⟩;unfold tY at hY;rw[if_neg hnc] at hY
     rcases hY with ⟨h,k,h3,h4⟩ |⟨_,_,h⟩
     ·cases h4;exact⟨h,h3⟩
     ·cases h
  ·refine kV good (oJ good ?_);refine aU (.int .i64 (aQ A (trk xs) A.hours.toNat 0 1)) hS (fun a hS=> ?_);refine aU (.bool true) hS (fun a hS=> ?_) (hr:=by intro τ;have h:=(‹Sl _ _ _›).2.2;simp only[SlA] at h;simp[go_sem,h,hc]);refine lY good ?_;refine sO good true (by rw[ev];exact hS.2.2.1) ?_;rw[if_pos rfl];have hS:Sl a 200 [(22,.int .i64 (i:Int)),(12,.int .i64 y),(13,.bool fd),(4,.pointer (some ⟨b1,0,none⟩))]:=⟨hS.1,hS.2.1,hS.2.2.2.2.2.1,hS.2.2.2.2.2.2.2.2.2.2.1,hS.2.2.2.2.2.2.2.2.2.2.2.1,hS.2.2.2.2.2.2.2.2.2.2.2.2.1,trivial⟩;have hyd:tY (trk xs) p (m+1) i A=some i:=by
    unfold tY;rw[if_neg (fun h=>hc (hcar.1 h.2))]
   rw[hyd] at hY;obtain⟨rfl,rfl⟩:fd=true/\y=(i:Int):=by
    rcases hY with ⟨h,k,h3,h4⟩ |⟨_,_,h⟩
    ·cases h4;exact⟨h,h3⟩
    ·cases h
   exact agS a u hB (hk00.trans (hkw.mono hk00.size)) hS
end Go.Proofs.YtaikibfkggglgaaDoor
