/- A part of the proof of a law; no conditions of its own. -/
import Derived.Test.YtaikibfkggglgaaGreatDoorYears03
open Go.RowKit renaming Below→bX
open Go renaming World→wD
open Go.IntKind renaming i64→qi
open Go.Value renaming int→iN, slice→sL, pointer→pN
open Go.Obj renaming cells→cL
set_option maxRecDepth 100000
open Nat renaming le_refl→nR
open Go.Lib renaming hid→lH
open Go.RowKit.Below renaming refl→bR
open List renaming getElem?_eq_getElem→lG
open List renaming getElem?_eq_some_iff→lS
open Go.World renaming block_lt_of_cell?→wBk
open Go.World renaming cell?_setCell_other→wO
open Go.World renaming cell?_setCell_far→wF
set_option maxHeartbeats 4000000
namespace Go.Proofs.YtaikibfkggglgaaGreatDoor
open Go.RowKit Go.Tp
section
variable {P:Program} {ops:Array Oper} {Q:Exit->Act->wD->Prop} {z:Nat} {S:wD->Prop}
theorem aoh {i:Nat} {oi:Oper} (hi:ops[i]? =some oi) (hsel: ∀(j:Nat) (o:Oper) cs b,ops[j]? =some o->o.op≠ .select cs b):
    ∀(n:Nat) (listed:Array Bool) (a:Act) (w:wD),Shut ops listed->
      (∀j oj,ops[j]? =some oj->j≠i->listed.getD j true=false->(∀e∈oj.after,Region.binds .any e=true->e.on≠i)->oi.apart ops oj=true)->
      i∈Region.ready .any ops listed->Region.wanted oi (yielded ops a.tmps)=false->LaS P ops Q z S n (listed.setIfInBounds i true) (a.put oi.dst undef) w->LaS P ops Q z S (n+1) listed a w:=by
  intro n
  induction n with
  |zero=>
    intro listed a w _ _ hr hw H;refine⟨fun h=>(by rw[h] at hr;cases hr),fun j hj=> ?_⟩;by_cases hji:j=i
    · subst hji
      exact⟨oi,hi,.inl ⟨hw,H⟩⟩
    · have h1:=ready_mono hj hji
      rw[H.1] at h1
      cases h1
  |succ n ih=>
    intro listed a w hsh hfree hr hw H;refine⟨fun h=>(by rw[h] at hr;cases hr),fun j hj=> ?_⟩;by_cases hji:j=i
    · subst hji
      exact⟨oi,hi,.inl ⟨hw,H⟩⟩
    · obtain⟨oj',hoj',H2⟩:=H.2 j (ready_mono hj hji)
      obtain⟨hjun,oj,hoj,hall⟩:=mem_ready.1 hj;have e1:oj'=oj:=Option.some.inj (hoj'.symm.trans hoj);rw[e1] at H2;have hun: ∀k,k=i->listed.getD k false=false:=fun k hk=>by
        subst hk;have h0:=(mem_ready.1 hr).1
        rcases Nat.lt_or_ge k listed.size with h' |h'
        · simp[h'] at h0 ⊢; exact h0
        · simp[Array.getElem?_eq_none h']
      have hnot: ∀e∈oj.after,Region.binds .any e=true->e.on≠i:=fun e he hb heq=>by
        have h1:=hall e he hb;rw[hun _ heq] at h1
        cases h1
      obtain⟨h1,h2,h3⟩:=Oper.apart_spec (hfree j oj hoj hji hjun hnot);have hwj:Region.wanted oj (yielded ops (a.put oi.dst undef).tmps)=Region.wanted oj (yielded ops a.tmps):=wanted_put oj a oi.dst undef h1;have hej:execOp (a.put oi.dst undef).eval oj=execOp a.eval oj:=execOp_put oj (fun cs b=>hsel j oj cs b hoj) a oi.dst undef h1;have hfree': ∀k ok,ops[k]? =some ok->k≠i->(listed.setIfInBounds j true).getD k true=false->
          (∀e∈ok.after,Region.binds .any e=true->e.on≠i)->oi.apart ops ok=true:=fun k ok hk hki hun' hno=>by
        refine hfree k ok hk hki ?_ hno;by_cases hjk:j=k
        · subst hjk;exact hjun
        · rw[getD_set_ne true hjk] at hun';exact hun'
      have key: ∀(vj:Value) (w':wD),LaS P ops Q z S n ((listed.setIfInBounds i true).setIfInBounds j true) ((a.put oi.dst undef).put oj.dst vj) w'->LaS P ops Q z S (n+1) (listed.setIfInBounds j true) (a.put oj.dst vj) w':=fun vj w' k=>by
        refine ih (listed.setIfInBounds j true) (a.put oj.dst vj) w' (ajn hsh fun o ho e he hb=>by rw[hoj] at ho;cases ho;exact hall e he hb) hfree' (ready_mono hr (Ne.symm hji)) ?_ ?_
        · rw[wanted_put oi a oj.dst vj h3];exact hw
        · rw[Array.setIfInBounds_comm _ _ hji,<-Act.put_comm a undef vj h2]
          exact k
      refine⟨oj,hoj, ?_⟩
      rcases H2 with ⟨hw2,k⟩ |⟨hw2,k⟩
      · exact .inl ⟨hwj.symm.trans hw2,key _ _ k⟩
      · refine .inr ⟨hwj.symm.trans hw2, ?_⟩
        unfold ahO at k ⊢;rw[hej] at k;exact ahO.mono (o:=oj) (a:=a) (w:=w) k fun vj w' hk=>⟨hk.1,key vj w' hk.2⟩
theorem an9 (i:Nat) {o:Oper} {n:Nat} {listed:Array Bool} {a:Act} {w:wD} (h:LaS P ops Q z S n (listed.setIfInBounds i true) (a.put o.dst undef) w) (ho:ops[i]? =some o:=by rfl) (hw:Region.wanted o (yielded ops a.tmps)=false:=by rfl)
  (hs:Region.noSelect ops=true:=by kernel_rfl) (hf:Region.free .any ops listed i=true:=by kernel_rfl) (hc:(Region.ready .any ops listed).contains i=true:=by kernel_rfl) (hsh:alz ops listed=true:=by kernel_rfl):LaS P ops Q z S (n+1) listed a w:=
 aoh ho (Region.noSelect_spec hs) n listed a w (ajm hsh) (Region.free_spec ho hf) (by simpa using hc) hw h
end
end Go.Proofs.YtaikibfkggglgaaGreatDoor
namespace Go.Proofs.YtaikibfkggglgaaGreatDoor
open Go.RowKit Go.Rent Go.Tp Go.Conc
structure Alike (A B:Bk):Prop where
 hours:B.hours=A.hours
 towns:B.towns=A.towns
 links:B.links=A.links
 len:B.pairs.length=A.pairs.length
 one: ∀i,B.pone i=A.pone i
 two: ∀i,B.ptwo i=A.ptwo i
theorem Alike.direct {A B:Bk} (s:Alike A B) (a b:Int):B.direct a b=A.direct a b:=by
 have h1: ∀n i,B.directFrom a b n i=A.directFrom a b n i:=by
  intro n
  induction n with
  |zero=>intro i;rfl
  |succ n ih=>
   intro i;unfold Bk.directFrom;rw[show B.one i=A.one i by unfold Bk.one;rw[s.links],show B.two i=A.two i by unfold Bk.two;rw[s.links],ih]
 unfold Bk.direct;rw[h1,s.links,show B.spokes=A.spokes by unfold Bk.spokes;rw[s.towns]]
theorem Alike.spokes {A B:Bk} (s:Alike A B):B.spokes=A.spokes:=by unfold Bk.spokes;rw[s.towns]
theorem agH (B:Bk) (T:Nat->Int):jk B T=true↔ ∀h,h<B.hours.toNat->B.lackIn T true h<0:=by
 unfold jk qU;simp only[Bool.not_eq_true',List.any_eq_false,List.mem_map,List.mem_range,decide_eq_true_eq];constructor
 ·intro h g hg;have:=h _ ⟨g,hg,rfl⟩;simp only at this;omega
 ·rintro h x ⟨g,hg,rfl⟩;have:=h g hg;simp only;omega
def agd (p q:Pr):Prop:=q.one=p.one/\q.two=p.two/\q.calls.length=p.calls.length/\ ∀(m:Nat) (x y:Int×Int),p.calls[m]? =some x->q.calls[m]? =some y->0<=x.1/\x.1<=x.2/\x.1<=y.1/\x.2<=y.2
structure Dom (A B:Bk):Prop where
 hours:B.hours=A.hours
 towns:B.towns=A.towns
 links:B.links=A.links
 len:B.pairs.length=A.pairs.length
 at_: ∀(i:Nat) (p q:Pr),A.pairs[i]? =some p->B.pairs[i]? =some q->agd p q
theorem agI {p q:Pr} (h:agd p q) (hb:jc q.calls=false):jc p.calls=false:=by
 obtain⟨_,_,hl,hc⟩:=h;unfold jc at *;rw[List.any_eq_false] at *;intro x hx;obtain⟨m,hm,rfl⟩:=List.getElem_of_mem hx;have h1:=lG hm;have h2:=lG (show m<q.calls.length by omega);have h3:=hc m _ _ h1 h2;have h4:=hb _ (List.getElem_mem (show m<q.calls.length by omega));simp only[dw,Bool.not_eq_true',decide_eq_false_iff_not,Decidable.not_not] at *;omega
theorem agn {nt hours:Int}: ∀(ps qs:List Pr) (S:List (Int×Int)),qs.length=ps.length->(∀(i:Nat) (p q:Pr),ps[i]? =some p->qs[i]? =some q->agd p q)->fP nt hours S qs=0->fP nt hours S ps=0
 | [],_,_,_,_,_=>rfl
 |p::ps,[],_,h,_,_=>by simp at h
 |p::ps,q::qs,S,h,hp,h0=>by
  have h1:=hp 0 p q rfl rfl;have h1':=h1;obtain⟨e1,e2,e3,_⟩:=h1;unfold fP at h0 ⊢;rw[e1,e2,e3] at h0
  split at h0
  ·cases h0
  rename_i c1;rw[if_neg c1]
  split at h0
  ·cases h0
  rename_i c2;rw[if_neg c2]
  split at h0
  ·cases h0
  rename_i c3;rw[if_neg c3]
  split at h0
  ·rename_i c4;rw[if_pos c4]
   split at h0
   ·cases h0
   rename_i c5;rw[if_neg (by rw[agI h1' (by simpa using c5)];decide)];exact agn ps qs _ (by simpa using h) (fun i a b ha hb=>hp (i+1) a b (by simpa using ha) (by simpa using hb)) h0
  ·cases h0
theorem agp {nt hours:Int}: ∀(ps qs:List Pr) (S:List (Int×Int)),qs.length=ps.length->(∀(i:Nat) (p q:Pr),ps[i]? =some p->qs[i]? =some q->q.one=p.one/\q.two=p.two/\q.calls.length=p.calls.length)->fP nt hours S ps=0->fP nt hours S qs=0\/fP nt hours S qs=1
 | [],[],_,_,_,_=> .inl rfl
 | [],q::qs,_,h,_,_=>by simp at h
 |p::ps,[],_,h,_,_=>by simp at h
 |p::ps,q::qs,S,h,hp,h0=>by
  obtain⟨e1,e2,e3⟩:=hp 0 p q rfl rfl;unfold fP at h0 ⊢;rw[e1,e2,e3]
  split at h0
  ·cases h0
  rename_i c1;rw[if_neg c1]
  split at h0
  ·cases h0
  rename_i c2;rw[if_neg c2]
  split at h0
  ·cases h0
  rename_i c3;rw[if_neg c3]
  split at h0
  ·rename_i c4;rw[if_pos c4]
   split at h0
   ·cases h0
   by_cases c6:jc q.calls=true
   ·rw[if_pos c6];exact .inr rfl
   ·rw[if_neg c6];exact agp ps qs _ (by simpa using h) (fun i a b ha hb=>hp (i+1) a b (by simpa using ha) (by simpa using hb)) h0
  ·cases h0
theorem agq {B:Bk} (h0:iZ B.hours=0) (h1:fM B.towns=0) (h2:dA B.towns.length B.links=0):B.alarm=dR B.towns.length B.hours B.pairs:=by
 unfold Bk.alarm;simp only[kH,alK];rw[if_pos h0,if_pos h1,if_pos h2]
 split
 ·rename_i h;exact h.symm
 ·rfl
theorem Dom.alarm {A B:Bk} (d:Dom A B) (h:B.alarm=0):A.alarm=0:=by
 obtain⟨h0,h1,h2,h3⟩:=GX h;rw[d.hours] at h0 h3;rw[d.towns] at h1 h2 h3;rw[d.links] at h2;rw[agq h0 h1 h2];unfold dR at h3 ⊢;rw[d.len] at h3
 split at h3
 ·cases h3
 ·rename_i c;rw[if_neg c];exact agn _ _ _ d.len d.at_ h3
theorem agJ {A B:Bk} (hA:A.alarm=0) (e1:B.hours=A.hours) (e2:B.towns=A.towns) (e3:B.links=A.links) (e4:B.pairs.length=A.pairs.length) (e5: ∀(i:Nat) (p q:Pr),A.pairs[i]? =some p->B.pairs[i]? =some q->q.one=p.one/\q.two=p.two/\q.calls.length=p.calls.length):B.alarm=0\/B.alarm=1:=by
 obtain⟨h0,h1,h2,h3⟩:=GX hA;rw[agq (by rw[e1];exact h0) (by rw[e2];exact h1) (by rw[e2,e3];exact h2),e1,e2];unfold dR at h3 ⊢;rw[e4]
 split at h3
 ·cases h3
 ·rename_i c;rw[if_neg c];exact agp _ _ _ e4 e5 h3
theorem agf (B:Bk) (p:Int) (i:Nat):(bQ B p).pairs[i]? =(B.pairs[i]?).map fun q=>{q with calls:=q.calls.map (upB p)}:=by simp[bQ]
theorem af0 (B:Bk) (p:Int):(bQ B p).pairs.length=B.pairs.length:=by simp[bQ]
theorem agK {B:Bk} (hB:B.alarm=0) (p:Int):(bQ B p).alarm=0\/(bQ B p).alarm=1:=by
 refine agJ hB rfl rfl rfl (af0 B p) fun i x y hx hy=> ?_;rw[agf,hx] at hy;simp only[Option.map_some,Option.some.injEq] at hy;subst hy;exact⟨rfl,rfl,by simp⟩
theorem ahg {nt hours:Int}: ∀(ps qs:List Pr) (S:List (Int×Int)),qs.length=ps.length->(∀(i:Nat) (p q:Pr),ps[i]? =some p->qs[i]? =some q->q.one=p.one/\q.two=p.two/\q.calls.length=p.calls.length/\jc q.calls=false)->fP nt hours S ps=0->fP nt hours S qs=0
 | [],[],_,_,_,_=>rfl
 | [],q::qs,_,h,_,_=>by simp at h
 |p::ps,[],_,h,_,_=>by simp at h
 |p::ps,q::qs,S,h,hp,h0=>by
  obtain⟨e1,e2,e3,e4⟩:=hp 0 p q rfl rfl;unfold fP at h0 ⊢;rw[e1,e2,e3]
  split at h0
  ·cases h0
  rename_i c1;rw[if_neg c1]
  split at h0
  ·cases h0
  rename_i c2;rw[if_neg c2]
  split at h0
  ·cases h0
  rename_i c3;rw[if_neg c3]
  split at h0
  ·rename_i c4;rw[if_pos c4]
   split at h0
   ·cases h0
   rw[if_neg (by rw[e4];decide)];exact ahg ps qs _ (by simpa using h) (fun i a b ha hb=>hp (i+1) a b (by simpa using ha) (by simpa using hb)) h0
  ·cases h0
theorem aho {A B:Bk} (hA:A.alarm=0) (e1:B.hours=A.hours) (e2:B.towns=A.towns) (e3:B.links=A.links) (e4:B.pairs.length=A.pairs.length) (e5: ∀(i:Nat) (p q:Pr),A.pairs[i]? =some p->B.pairs[i]? =some q->q.one=p.one/\q.two=p.two/\q.calls.length=p.calls.length/\jc q.calls=false):B.alarm=0:=by
 obtain⟨h0,h1,h2,h3⟩:=GX hA;rw[agq (by rw[e1];exact h0) (by rw[e2];exact h1) (by rw[e2,e3];exact h2),e1,e2];unfold dR at h3 ⊢;rw[e4]
 split at h3
 ·cases h3
 ·rename_i c;rw[if_neg c];exact ahg _ _ _ e4 e5 h3
theorem ag9 (B:Bk) (i h:Nat) (y:Int×Int):(fD B i h y).pairs.length=B.pairs.length:=by show (List.modify _ _ _).length=_;rw[List.length_modify]
theorem aha {B:Bk} {i h j:Nat} {y:Int×Int} {p q:Pr} (hp:B.pairs[j]? =some p) (hq:(fD B i h y).pairs[j]? =some q):q.one=p.one/\q.two=p.two/\q.calls.length=p.calls.length/\ ∀m,q.calls[m]? =if j=i/\m=h/\m<p.calls.length then some y else p.calls[m]? :=by
 obtain⟨q3,e0,e1,e2,e3,e4⟩:=mO hq;rw[hp] at e0
 cases e0
 exact⟨e1,e2,e3,fun m=>by rw[e4 m]⟩
theorem ahp {l:List (Int×Int)}:jc l=false↔ ∀(m:Nat) (x:Int×Int),l[m]? =some x->dw x=true:=by
 unfold jc;rw[List.any_eq_false];constructor
 ·intro h m x hx;have:=h x (List.mem_of_getElem? hx);simpa using this
 ·intro h x hx;obtain⟨m,hm,rfl⟩:=List.getElem_of_mem hx;rw[h m _ (lG hm)]
  decide
theorem ahq {B:Bk} (hB:B.alarm=0) {i h:Nat} {y:Int×Int} (hy:dw y=true):(fD B i h y).alarm=0:=by
 refine aho hB rfl rfl rfl (ag9 B i h y) fun j p q hp hq=> ?_;obtain⟨e1,e2,e3,e4⟩:=aha hp hq;refine⟨e1,e2,e3,ahp.2 fun m x hx=> ?_⟩;rw[e4 m] at hx
 split at hx
 ·cases hx;exact hy
 ·have:=((gY hB).fine.calls j p hp).2 m x hx;simpa[dw] using this
theorem ahh {B:Bk} (hB:B.alarm=0) {i h:Nat} (hi:i<B.pairs.length) (hh:(h:Int)<B.hours):0<=(iD B i h).1/\(iD B i h).1<=(iD B i h).2/\(iD B i h).2<=5:=by
 have hp:=lG hi;have hL:=(gY hB).fine.calls i _ hp;have hh2:h<B.pairs[i].calls.length:=by have:=hL.1;omega
 have hx:B.pairs[i].calls[h]? =some B.pairs[i].calls[h]:=lG hh2;have:iD B i h=B.pairs[i].calls[h]:=by unfold iD;rw[hp,Option.bind_some,hx];rfl
 rw[this];exact hL.2 h _ hx
theorem ajM {w u:wD} {V:BkV} {B:Bk} (hs:aB w V B) {b o g gc cb cc i h:Nat} {x:Int×Int} (hpa:V.pa=some ⟨b,o,none⟩) (hi:i<B.pairs.length) (hb:bX w.heap.size w u)
  (h0: ∀j,j<B.pairs.length->u.cell? ⟨g,j*3,none⟩=some (iN qi (B.pone j))/\u.cell? ⟨g,j*3+1,none⟩=some (iN qi (B.ptwo j))/\(j≠i->u.cell? ⟨g,j*3+2,none⟩=w.cell? ⟨b,o+j*3+2,none⟩))
  (h1:u.cell? ⟨g,i*3+2,none⟩=some (sL (some ⟨cb,0,none⟩) (B.pairs[i]).calls.length cc))
  (h2: ∀(k:Nat) (y:Int×Int),(B.pairs[i]).calls[k]? =some y->u.cell? ⟨cb,k*2,none⟩=some (iN qi (if k=h then x else y).1)/\u.cell? ⟨cb,k*2+1,none⟩=some (iN qi (if k=h then x else y).2)):
  aB u {V with pa:=some ⟨g,0,none⟩,pc:=gc} (fD B i h x):=by
 have hs2:=hs.below hb (nR _);refine⟨hs2.towns,hs2.links,fun j q hq=> ?_,hs.nt,hs.nl,by rw[ag9];exact hs.np,hs.tc⟩;obtain⟨p,hp,e1,e2,e3,e4⟩:=mO hq;have hj:j<B.pairs.length:=(lS.1 hp).1;have hpj:B.pairs[j]=p:=(lS.1 hp).2;obtain⟨k0,k1,k2⟩:=h0 j hj;have hpo:B.pone j=q.one:=by unfold Bk.pone;rw[hp,e1];rfl
 have hpt:B.ptwo j=q.two:=by unfold Bk.ptwo;rw[hp,e2];rfl
 rw[hpo] at k0;rw[hpt] at k1;obtain⟨b2,o2,sa2,sc2,e5,_,_,h5,h6,h7⟩:=hs.pairs j p hp;rw[hpa] at e5
 cases e5
 by_cases c:j=i
 ·subst c;rw[hpj] at h1 h2;refine⟨g,0,some ⟨cb,0,none⟩,cc,rfl,by rw[Nat.zero_add];exact k0,by rw[Nat.zero_add];exact k1,by rw[Nat.zero_add,e3];exact h1,fun k y hy=> ?_,by rw[e3];exact h7⟩;rw[e4 k] at hy;by_cases c2:k=h/\k<p.calls.length
  ·rw[if_pos ⟨rfl,c2⟩] at hy
   cases hy
   have h8:=h2 k _ (lG c2.2);rw[if_pos c2.1] at h8;exact⟨cb,0,rfl,by rw[Nat.zero_add];exact h8.1,by rw[Nat.zero_add];exact h8.2⟩
  ·rw[if_neg (fun z=>c2 z.2)] at hy;have h8:=h2 k y hy;have hk:=(lS.1 hy).1;rw[if_neg (fun z=>c2 ⟨z,hk⟩)] at h8;exact⟨cb,0,rfl,by rw[Nat.zero_add];exact h8.1,by rw[Nat.zero_add];exact h8.2⟩
 ·have h9:q.calls=p.calls:=by
   apply List.ext_getElem?;intro m;rw[e4 m,if_neg (fun z=>c z.1)]
  refine⟨g,0,sa2,sc2,rfl,by rw[Nat.zero_add];exact k0,by rw[Nat.zero_add];exact k1,by rw[Nat.zero_add,k2 c,h9];exact h5,by rw[h9];exact h6.below hb (nR _),by rw[h9];exact h7⟩
theorem ajq {n:Nat} {w u:wD} {p:Addr} {v:Value} (hb:bX n w u) (h:w.cell? p=some v) (hn:w.heap.size<=n:=by exact nR _):u.cell? p=some v:=(hb.cell (Nat.lt_of_lt_of_le (wBk w _ h) hn)).trans h
theorem dW.far {w:wD} {b c k:Nat} {a0 a1 a2 a3:Value} (h:dW w b a0 a1 a2 a3) (hne:c≠b) (v:Value):dW (w.setCell ⟨c,k,none⟩ v) b a0 a1 a2 a3:=by
 obtain⟨hz,c0,c1,c2,c3,f0,f1,f2,f3⟩:=h;refine aij ?_ ?_ ?_ ?_ ?_ ?_ ?_ ?_
 all_goals first
  |rw[wF _ _ _ _ hne];assumption
  |rw[World.frozen?_setCell];assumption
theorem dW.drew {w:wD} {b:Nat} {a0 a1 a2 a3:Value} (h:dW w b a0 a1 a2 a3):dW w.drew b a0 a1 a2 a3:=⟨h.z,h.c0,h.c1,h.c2,h.c3,h.f0,h.f1,h.f2,h.f3⟩
theorem c43 (V:BkV) (B:Bk) (i h:Nat) (x1 x2:Int) (w:wD) (hs:aB w V B) (hG:Good B) (hi:i<B.pairs.length) (hh:(h:Int)<B.hours):
  Calls Tryz.prog 49 #[V.val B,iN qi (i:Int),iN qi (h:Int),.agg #[iN qi x1,iN qi x2]] w fun e w'=> ∃g gc,e= .returned (({V with pa:=some ⟨g,0,none⟩,pc:=gc}:BkV).val B)/\aB w' {V with pa:=some ⟨g,0,none⟩,pc:=gc} (fD B i h (x1,x2))/\bG w' (some ⟨g,0,none⟩)/\bX w.heap.size w w':=by
 obtain⟨ta,la,pa,tc,lc,pc⟩:=V;have hp0:B.pairs[i]? =some B.pairs[i]:=lG hi;obtain⟨b,o,_,_,hpa,_⟩:=hs.pairs i _ hp0;simp only at hpa;subst hpa;have hnp:=hG.fine.pairs;have hL:=(hG.fine.calls i _ hp0).1;have hh1:=hG.fine.hours;have hprs:=hs.pairs;obtain⟨vs,hrv,htr⟩:=ajN hprs;have hvl:vs.length=B.pairs.length:=by rw[hrv.len,List.length_map]
 obtain⟨sa,sc,q0,q1,q2,q3,q4⟩:=aiO hrv htr (i:=i) (x:=pr3 B.pairs[i]) (by rw[List.getElem?_map,hp0];rfl);have hcl:1<=(B.pairs[i]).calls.length:=by omega
 obtain⟨sb,so,hsa,_⟩:=q3 0 _ (lG hcl);subst hsa;simp only[pr3] at q0 q1 q2 q3 q4;obtain⟨L,hLL⟩: ∃L,(B.pairs[i]).calls.length=L:=⟨_,rfl⟩;rw[hLL] at q2 hcl hL;have hhL:h<L:=by omega
 have Hs:=lH hs;have Hrv:=lH hrv;have Htr:=lH htr;have Hvl:=lH hvl;have Hq2:=lH q2;have Hq3:=lH q3;have HL:=lH hLL;have HG:=lH hG;obtain⟨i7,hi7,hz7,hy7,hw7⟩:=info_parts Zq;obtain⟨i5,hi5,hz5,hy5,hw5⟩:=info_parts MG;have Hown:Hid (∀u:wD,u.heap.size=w.heap.size+1+1+1+1->(u.alloc (cL #[] 56)).ownsRow (w.heap.size+1+1+1+1) 56 3 (sL (some ⟨w.heap.size+1+1+1+1,0,none⟩) 0 0) 0 []):=lH fun u hu=>by
  have:=aip u (w.heap.size+1+1+1+1) 56 3 (by omega);rwa [hu] at this
 have Hnews:Hid (∀u,bX w.heap.size w u-> ∀(j:Nat) (x:Value),(tri vs)[j]? =some x->u.cell? ((⟨b,o,none⟩:Addr).add j)=some x):=lH fun u hu j x hx=>ajq hu (htr j x hx);have Hone:=lH hrv.one;have Hlen:Hid ((tri vs).length=B.pairs.length*3):=lH (by rw[ES,hvl]);have Hb63:Hid (0+B.pairs.length<=maxLen):=lH (by unfold maxLen;omega);have Hbb:Hid ((0+B.pairs.length)*40<=140737488355328):=lH (by omega);clear hs hG hp0 hprs hrv htr hvl q0 q1 q2 q3 hLL;go_enter Tryz.func49,Tryz.ntmps49
 go_wp2_with (at_builtin;refine wpList_append_own _ rfl _ _ 24 rfl (w.heap.size+1+1+1+1) 56 i7 (.agg #[iN qi 0,iN qi 0,sL none 0 0]) 3 40 Tryz.underlying24 hi7 hz7 hy7 hw7 rfl (by decide) _ _ _ rfl (Hown.out _ (by simp)) ⟨b,o,none⟩ B.pairs.length pc (tri vs) rfl Hlen.out (Hnews.out _ ((((((bR _ _).alloc (nR _) _).alloc (by simp) _).alloc (by simp;omega) _).alloc (by simp;omega) _).alloc (by simp;omega) _)) Hone.out Hb63.out Hbb.out (by simp) ?_;intro v w2 hown1 hgrow _;refine RowKit.Hid.out ?_)
 refine lH ?_;have hr4:=ahT w 26 (iN qi B.hours) (sL ta B.towns.length tc) (sL la B.links.length lc) (sL (some ⟨b,o,none⟩) B.pairs.length pc);have hb0:=(bR w.heap.size w).alloc (nR _) (cL #[iN qi B.hours,sL ta B.towns.length tc,sL la B.links.length lc,sL (some ⟨b,o,none⟩) B.pairs.length pc] 26);have hz0:(w.alloc (cL #[iN qi B.hours,sL ta B.towns.length tc,sL la B.links.length lc,sL (some ⟨b,o,none⟩) B.pairs.length pc] 26)).heap.size=w.heap.size+1:=by simp
 generalize w.alloc (cL #[iN qi B.hours,sL ta B.towns.length tc,sL la B.links.length lc,sL (some ⟨b,o,none⟩) B.pairs.length pc] 26)=W0 at *;have hb1:=hb0.alloc hb0.size (cL #[iN qi x1,iN qi x2] 43);have hs1:=(bR W0.heap.size W0).alloc (nR _) (cL #[iN qi x1,iN qi x2] 43);have hz1:(W0.alloc (cL #[iN qi x1,iN qi x2] 43)).heap.size=w.heap.size+1+1:=by simp[hz0]
 have hc0:(W0.alloc (cL #[iN qi x1,iN qi x2] 43)).cell? ⟨w.heap.size+1,0,none⟩=some (iN qi x1)/\(W0.alloc (cL #[iN qi x1,iN qi x2] 43)).cell? ⟨w.heap.size+1,1,none⟩=some (iN qi x2):=by rw[<-hz0];exact⟨by go_simp,by go_simp⟩
 generalize W0.alloc (cL #[iN qi x1,iN qi x2] 43)=W1 at *;have hr8:=ahT W1 26 (iN qi 0) (sL none 0 0) (sL none 0 0) (sL none 0 0);have hb2:=hb1.alloc hb1.size (cL #[iN qi 0,sL none 0 0,sL none 0 0,sL none 0 0] 26);have hs2:=(bR W1.heap.size W1).alloc (nR _) (cL #[iN qi 0,sL none 0 0,sL none 0 0,sL none 0 0] 26);have hz2:(W1.alloc (cL #[iN qi 0,sL none 0 0,sL none 0 0,sL none 0 0] 26)).heap.size=w.heap.size+1+1+1:=by simp[hz1]
 rw[hz1] at hr8;generalize W1.alloc (cL #[iN qi 0,sL none 0 0,sL none 0 0,sL none 0 0] 26)=W2 at *;have hr9:=ahT W2 26 (iN qi B.hours) (sL ta B.towns.length tc) (sL la B.links.length lc) (sL (some ⟨b,o,none⟩) B.pairs.length pc);have hb3:=hb2.alloc hb2.size (cL #[iN qi B.hours,sL ta B.towns.length tc,sL la B.links.length lc,sL (some ⟨b,o,none⟩) B.pairs.length pc] 26);have hs3:=(bR W2.heap.size W2).alloc (nR _) (cL #[iN qi B.hours,sL ta B.towns.length tc,sL la B.links.length lc,sL (some ⟨b,o,none⟩) B.pairs.length pc] 26);have hz3:(W2.alloc (cL #[iN qi B.hours,sL ta B.towns.length tc,sL la B.links.length lc,sL (some ⟨b,o,none⟩) B.pairs.length pc] 26)).heap.size=w.heap.size+1+1+1+1:=by simp[hz2]
 rw[hz2] at hr9;generalize W2.alloc (cL #[iN qi B.hours,sL ta B.towns.length tc,sL la B.links.length lc,sL (some ⟨b,o,none⟩) B.pairs.length pc] 26)=W3 at *;have hs4:=(bR W3.heap.size W3).alloc (nR _) (cL #[] 56);have hgr:(W3.alloc (cL #[] 56)).grownBy w2 (some (w.heap.size+1+1+1+1)):=hgrow;have hs5:=hs4.grown hgr hs4.size (fun j hj=>by cases hj;rw[hz3];exact nR _);have hwb:=hb3.trans (hs5.mono hb3.size);obtain⟨g,gc,rfl,q1,q2,q3,q4',q5,_⟩:=ru hown1 (by omega);have hrow:=(aan hown1).1;rw[Nat.zero_add,List.nil_append] at *;have hr4:=(((hr4.below hs1 (by omega)).below hs2 (by omega)).below hs3 (by omega)).below hs5 (by omega);have hr8:=(hr8.below hs3 (by omega)).below hs5 (by omega);have hr9:=hr9.below hs5 (by omega);have hc7:w2.cell? ⟨w.heap.size+1,0,none⟩=some (iN qi x1)/\w2.cell? ⟨w.heap.size+1,1,none⟩=some (iN qi x2):=
  ⟨ajq hs5 (ajq hs3 (ajq hs2 hc0.1)),ajq hs5 (ajq hs3 (ajq hs2 hc0.2))⟩
 clear hown1 hgrow hgr hs1 hs2 hs3 hs4 hs5 hb0 hb1 hb2 hc0;refine ajp (h:=ah0 (v:= pN (some ⟨w.heap.size+1+1+1,3,none⟩)) (w':=w2) (by go_simp) ?_);have hst:=hr9.c3;have hstf:=hr9.f3;refine ajp (h:=ah1 (w':=w2.setCell ⟨w.heap.size+1+1+1,3,none⟩ (sL (some ⟨g,0,none⟩) B.pairs.length gc)) (by go_simp) ?_);simp only[Act.put,List.setIfInBounds_toArray,List.set];have hgb:w.heap.size+1+1+1<g:=by omega
 have h4:=hr4.far (c:=w.heap.size+1+1+1) (k:=3) (by omega) (sL (some ⟨g,0,none⟩) B.pairs.length gc);have h8:=hr8.far (c:=w.heap.size+1+1+1) (k:=3) (by omega) (sL (some ⟨g,0,none⟩) B.pairs.length gc);have h9:dW (w2.setCell ⟨w.heap.size+1+1+1,3,none⟩ (sL (some ⟨g,0,none⟩) B.pairs.length gc)) (w.heap.size+1+1+1) (iN qi B.hours) (sL ta B.towns.length tc) (sL la B.links.length lc) (sL (some ⟨g,0,none⟩) B.pairs.length gc):=by
  obtain⟨_,c0,c1,c2,c3,f0,f1,f2,f3⟩:=hr9;refine aij ?_ ?_ ?_ (World.cell?_setCell_same _ _ _ c3) ?_ ?_ ?_ ?_<;>go_simp
 have h7:(w2.setCell ⟨w.heap.size+1+1+1,3,none⟩ (sL (some ⟨g,0,none⟩) B.pairs.length gc)).cell? ⟨w.heap.size+1,0,none⟩=some (iN qi x1)/\(w2.setCell ⟨w.heap.size+1+1+1,3,none⟩ (sL (some ⟨g,0,none⟩) B.pairs.length gc)).cell? ⟨w.heap.size+1,1,none⟩=some (iN qi x2):=by
  constructor
  ·rw[wF _ _ _ _ (show w.heap.size+1+1+1≠w.heap.size+1 by omega)];exact hc7.1
  ·rw[wF _ _ _ _ (show w.heap.size+1+1+1≠w.heap.size+1 by omega)];exact hc7.2
 have hgr:ahP (w2.setCell ⟨w.heap.size+1+1+1,3,none⟩ (sL (some ⟨g,0,none⟩) B.pairs.length gc)) g 0 vs:=aio fun j x hx=>by
  rw[wF _ _ _ _ (show w.heap.size+1+1+1≠g by omega)];exact q3 j x hx
 have hgf: ∀j,(w2.setCell ⟨w.heap.size+1+1+1,3,none⟩ (sL (some ⟨g,0,none⟩) B.pairs.length gc)).frozen? ⟨g,j,none⟩=false:=fun j=>by rw[World.frozen?_setCell];exact q4' j
 have hwb5:=hwb.setCell (p:=⟨w.heap.size+1+1+1,3,none⟩) (show w.heap.size<=w.heap.size+1+1+1 by omega) (sL (some ⟨g,0,none⟩) B.pairs.length gc);have hgz:g<(w2.setCell ⟨w.heap.size+1+1+1,3,none⟩ (sL (some ⟨g,0,none⟩) B.pairs.length gc)).heap.size:=by simpa using q2
 have hrow5:=jm ⟨w.heap.size+1+1+1,3,none⟩ (sL (some ⟨g,0,none⟩) B.pairs.length gc) hrow;clear hr4 hr8 hr9 hc7 q3 q4' hwb q2 hrow hst hstf;generalize w2.setCell ⟨w.heap.size+1+1+1,3,none⟩ (sL (some ⟨g,0,none⟩) B.pairs.length gc)=W5 at *;have Hsh:=lH (And.intro hnp (And.intro hh1 (And.intro hcl (And.intro hhL hgb))));have H4:=lH h4;have H7:=lH h7;have H8:=lH h8;have H9:=lH h9;have Hgr:=lH hgr;have Hgf:=lH hgf;have Hwb:=lH hwb5;have Hgz:=lH hgz;have Hrow:=lH hrow5;have Hzs:=lH (And.intro hz3 hb3.size);clear h4 h7 h8 h9 hgr hgf hwb5 hgz hrow5 hz3 hb3 hz0 hz1 hz2
 go_wp2_with fail
 have hW:bX W5.heap.size W5 W5.drew:=(bR _ _).drew;have hi':(i:Int)<(B.pairs.length:Int):=by omega
 have hi0:(0 :Int)<=(i:Int):=Int.natCast_nonneg _;have z9:=ajq (n:=W5.heap.size) (w:=W5) (u:=W5) (bR _ _) H9.out.c3;have hq2:=ajq Hwb.out Hq2.out;have HC:Hid (∀u,bX W5.heap.size W5 u->u.cell? ⟨w.heap.size+1+1+1,3,none⟩=some (sL (some ⟨g,0,none⟩) B.pairs.length gc)/\u.cell? ⟨w.heap.size,3,none⟩=some (sL (some ⟨b,o,none⟩) B.pairs.length pc)/\u.cell? ⟨b,o+i*3+2,none⟩=some (sL (some ⟨sb,so,none⟩) L sc)):=lH fun u hu=>⟨ajq hu H9.out.c3,ajq hu H4.out.c3,ajq hu hq2⟩;clear z9 hq2;have hW':=HC.out _ hW;refine aif 14 14 (fun u=>u.cell? ⟨w.heap.size+1+1+1,3,none⟩=some (sL (some ⟨g,0,none⟩) B.pairs.length gc)/\u.cell? ⟨w.heap.size,3,none⟩=some (sL (some ⟨b,o,none⟩) B.pairs.length pc)/\u.cell? ⟨b,o+i*3+2,none⟩=some (sL (some ⟨sb,so,none⟩) L sc)) (by kernel_rfl) ?_;refine ahN 0 (pN (some ⟨w.heap.size+1+1+1,3,none⟩)) hW' ?_ (hr:=fun u hu=>by go_simp);refine ahN 1 (sL (some ⟨g,0,none⟩) B.pairs.length gc) hW' ?_ (hr:=fun u hu=>by obtain⟨c0,c1,c2⟩:=hu;go_simp);refine ahN 2 (iN qi (i:Int)) hW' ?_ (hr:=fun u hu=>by go_simp);refine ahN 4 (pN (some ⟨w.heap.size,3,none⟩)) hW' ?_ (hr:=fun u hu=>by go_simp);refine ahN 5 (sL (some ⟨b,o,none⟩) B.pairs.length pc) hW' ?_ (hr:=fun u hu=>by obtain⟨c0,c1,c2⟩:=hu;go_simp);refine ahN 6 (iN qi (i:Int)) hW' ?_ (hr:=fun u hu=>by go_simp);refine ahN 7 (pN (some ⟨b,o+i*3,none⟩)) hW' ?_ (hr:=fun u hu=>by go_simp);refine ahN 8 (pN (some ⟨b,o+i*3+2,none⟩)) hW' ?_ (hr:=fun u hu=>by go_simp);refine ahN 9 (sL (some ⟨sb,so,none⟩) L sc) hW' ?_ (hr:=fun u hu=>by obtain⟨c0,c1,c2⟩:=hu;go_simp);refine ahQ 3 (h:=ah0 (v:= sL (some ⟨W5.drew.heap.size,0,none⟩) 0 0) (w':=W5.drew.alloc (cL #[] 43)) (by go_simp) ⟨fun _=>HC.out _ (hW.alloc hW.size _), ?_⟩);have ho:=aip W5.drew W5.heap.size 43 2 hW.size;have hu0:=hW.alloc hW.size (cL #[] 43);generalize W5.drew.alloc (cL #[] 43)=u0 at *;generalize W5.drew.heap.size=b3 at *;simp only[Act.put,List.setIfInBounds_toArray,List.set,List.getElem_toArray,List.getElem_cons_zero,List.getElem_cons_succ];have hw0:=Hwb.out.trans (hu0.mono Hwb.out.size);refine ahQ 10 (h:=aii (.tmp 19) (.tmp 25) 54 (by rfl) W5.heap.size 43 i5 (.agg #[iN qi 0,iN qi 0]) 2 16 Tryz.underlying54 hi5 hz5 hy5 hw5 (by rfl) (by decide) _ _ _ (by rfl) ho ⟨sb,so,none⟩ L sc (duo (B.pairs[i]).calls) (by rfl)
  (by rw[EW,HL.out]) (fun j x hx=>ajq hw0 (Ny Hq3.out _ rfl j x hx)) (EX _) (by unfold maxLen;omega) (by omega) hu0.size fun v2 u2 ho2 hg2 _=> ?_)
 have hu2:bX W5.heap.size W5 u2:=hu0.grown hg2 hu0.size (fun j hj=>(ho.lt j hj).1);refine⟨fun _=>HC.out _ hu2, ?_⟩;have hS2:=HC.out _ hu2;obtain⟨cb,cc,rfl,q1,q2,q3,q4',q5,_⟩:=ru ho2 (by omega);rw[Nat.zero_add,List.nil_append] at *;have hcg:g≠cb:=by have:=Hgz.out;omega
 simp only[Act.put,List.setIfInBounds_toArray,List.set,List.getElem_toArray,List.getElem_cons_zero,List.getElem_cons_succ];refine ahN 11 (pN (some ⟨g,i*3,none⟩)) hS2 ?_ (hr:=fun u hu=>by go_simp);refine ahN 12 (pN (some ⟨g,i*3+2,none⟩)) hS2 ?_ (hr:=fun u hu=>by go_simp);simp only[Act.put,List.setIfInBounds_toArray,List.set,List.getElem_toArray,List.getElem_cons_zero,List.getElem_cons_succ];have hlt2:=hu2.size;have hg2c:u2.cell? ⟨g,i*3+2,none⟩=some (sL (some ⟨sb,so,none⟩) L sc):=by
  obtain⟨sa1,sc1,e0,e1,e2,_⟩:=aiO (i:=i) (x:=pr3 B.pairs[i]) (Hrv.out.below Hwb.out (nR _)) Hgr.out (by rw[List.getElem?_map,lG hi];rfl);obtain⟨sa3,sc3,f0,f1,f2,_⟩:=aiO (i:=i) (x:=pr3 B.pairs[i]) Hrv.out Htr.out (by rw[List.getElem?_map,lG hi];rfl);obtain⟨sa4,sc4,k1,_⟩:=Hrv.out.get i (pr3 B.pairs[i]) (by rw[List.getElem?_map,lG hi];rfl);have k2:=(ET _ _ _ k1).2.2;have k3:=Htr.out _ _ k2;have k4:=Hgr.out _ _ k2;rw[BH] at k3 k4;rw[<-Nat.add_assoc,Hq2.out] at k3;rw[Nat.zero_add] at k4;rw[<-Option.some.inj k3] at k4;exact ajq hu2 k4
 have hg2f:u2.frozen? ⟨g,i*3+2,none⟩=false:=by rw[(ak hu2).2 _ _ Hgz.out];exact Hgf.out _
 refine ahQ 13 (h:=ah1 (w':=u2.setCell ⟨g,i*3+2,none⟩ (sL (some ⟨cb,0,none⟩) L cc)) (by go_simp) ⟨fun _=> ?_, ?_⟩)
 ·obtain⟨c0,c1,c2⟩:=hS2;have hbz:b<w.heap.size:=wBk w _ Hq2.out;have hgb:=Hsh.out.2.2.2.2;refine⟨?_, ?_, ?_⟩
  ·rw[wF _ _ _ _ (show g≠w.heap.size+1+1+1 by omega)];exact c0
  ·rw[wF _ _ _ _ (show g≠w.heap.size by omega)];exact c1
  ·rw[wF _ _ _ _ (show g≠b by omega)];exact c2
 refine ahZ ?_;simp only[Act.put,List.getElem_toArray,List.getElem_cons_zero,List.getElem_cons_succ];have hgb:=Hsh.out.2.2.2.2;have hWz:w.heap.size+1+1+1+1<=W5.heap.size:=by have:=Hgz.out;omega
 have h4:=(H4.out.below hu2 (by omega)).far (c:=g) (k:=i*3+2) (by omega) (sL (some ⟨cb,0,none⟩) L cc);have h8:=(H8.out.below hu2 (by omega)).far (c:=g) (k:=i*3+2) (by omega) (sL (some ⟨cb,0,none⟩) L cc);have h9:=(H9.out.below hu2 (by omega)).far (c:=g) (k:=i*3+2) (by omega) (sL (some ⟨cb,0,none⟩) L cc);have h7:(u2.setCell ⟨g,i*3+2,none⟩ (sL (some ⟨cb,0,none⟩) L cc)).cell? ⟨w.heap.size+1,0,none⟩=some (iN qi x1)/\(u2.setCell ⟨g,i*3+2,none⟩ (sL (some ⟨cb,0,none⟩) L cc)).cell? ⟨w.heap.size+1,1,none⟩=some (iN qi x2):=by
  constructor
  ·rw[wF _ _ _ _ (show g≠w.heap.size+1 by omega)];exact ajq hu2 H7.out.1
  ·rw[wF _ _ _ _ (show g≠w.heap.size+1 by omega)];exact ajq hu2 H7.out.2
 have hgi:(u2.setCell ⟨g,i*3+2,none⟩ (sL (some ⟨cb,0,none⟩) L cc)).cell? ⟨g,i*3+2,none⟩=some (sL (some ⟨cb,0,none⟩) L cc):=World.cell?_setCell_same _ _ _ hg2c;have hgo: ∀j x,j≠i*3+2->(tri vs)[j]? =some x->(u2.setCell ⟨g,i*3+2,none⟩ (sL (some ⟨cb,0,none⟩) L cc)).cell? ⟨g,j,none⟩=some x:=fun j x hj hx=>by
  rw[wO _ _ _ _ (by intro e;simp only[Addr.mk.injEq] at e;omega)];have:=Hgr.out j x hx;rw[BH,Nat.zero_add] at this;exact ajq hu2 this
 have hcc: ∀j x,(duo (B.pairs[i]).calls)[j]? =some x->(u2.setCell ⟨g,i*3+2,none⟩ (sL (some ⟨cb,0,none⟩) L cc)).cell? ⟨cb,j,none⟩=some x:=fun j x hx=>by
  rw[wF _ _ _ _ hcg];exact q3 j x hx
 have hcf: ∀j,(u2.setCell ⟨g,i*3+2,none⟩ (sL (some ⟨cb,0,none⟩) L cc)).frozen? ⟨cb,j,none⟩=false:=fun j=>by rw[World.frozen?_setCell];exact q4' j
 have hwx:bX w.heap.size w (u2.setCell ⟨g,i*3+2,none⟩ (sL (some ⟨cb,0,none⟩) L cc)):=(Hwb.out.trans (hu2.mono Hwb.out.size)).setCell (p:=⟨g,i*3+2,none⟩) (show w.heap.size<=g by omega) _;have hrx:bG (u2.setCell ⟨g,i*3+2,none⟩ (sL (some ⟨cb,0,none⟩) L cc)) (some ⟨g,0,none⟩):=jm _ _ (nS Hrow.out hu2);have hcbz:w.heap.size+1+1+1<cb:=by have:=Hgz.out;omega
 clear hg2c hg2f q2 q3 q4' ho ho2 hg2 hu0 hu2 hW hW' hS2 hw0 HC hlt2;generalize (u2.setCell ⟨g,i*3+2,none⟩ (sL (some ⟨cb,0,none⟩) L cc))=W6 at *;have K4:=lH h4;have K7:=lH h7;have K8:=lH h8;have K9:=lH h9;have Kgi:=lH hgi;have Kgo:=lH hgo;have Kcc:=lH hcc;have Kcf:=lH hcf;have Kwx:=lH hwx;have Krx:=lH hrx;have Kn:=lH (And.intro hcg (And.intro hcbz hWz));clear h4 h7 h8 h9 hgi hgo hcc hcf hwx hrx hcg hcbz hWz hi' hi0
 go_wp2_with fail
 have hi':(i:Int)<(B.pairs.length:Int):=by omega
 have hi0:(0 :Int)<=(i:Int):=Int.natCast_nonneg _;have hh':(h:Int)<(L:Int):=by omega
 have hh0:(0 :Int)<=(h:Int):=Int.natCast_nonneg _;have hS:W6.drew.cell? ⟨w.heap.size+1+1+1,3,none⟩=some (sL (some ⟨g,0,none⟩) B.pairs.length gc)/\W6.drew.cell? ⟨g,i*3+2,none⟩=some (sL (some ⟨cb,0,none⟩) L cc)/\W6.drew.cell? ⟨w.heap.size+1,0,none⟩=some (iN qi x1)/\W6.drew.cell? ⟨w.heap.size+1,1,none⟩=some (iN qi x2):=⟨K9.out.c3,Kgi.out,K7.out.1,K7.out.2⟩;refine aif 10 10 (fun u=>u.cell? ⟨w.heap.size+1+1+1,3,none⟩=some (sL (some ⟨g,0,none⟩) B.pairs.length gc)/\u.cell? ⟨g,i*3+2,none⟩=some (sL (some ⟨cb,0,none⟩) L cc)/\u.cell? ⟨w.heap.size+1,0,none⟩=some (iN qi x1)/\u.cell? ⟨w.heap.size+1,1,none⟩=some (iN qi x2)) (by kernel_rfl) ?_;refine ahN 0 (pN (some ⟨w.heap.size+1+1+1,3,none⟩)) hS ?_ (hr:=fun u hu=>by go_simp);refine ahN 1 (sL (some ⟨g,0,none⟩) B.pairs.length gc) hS ?_ (hr:=fun u hu=>by obtain⟨c0,c1,c2,c3⟩:=hu;go_simp);refine ahN 2 (iN qi (i:Int)) hS ?_ (hr:=fun u hu=>by go_simp);refine ahN 3 (pN (some ⟨g,i*3,none⟩)) hS ?_ (hr:=fun u hu=>by go_simp);refine ahN 4 (pN (some ⟨g,i*3+2,none⟩)) hS ?_ (hr:=fun u hu=>by go_simp);refine ahN 5 (sL (some ⟨cb,0,none⟩) L cc) hS ?_ (hr:=fun u hu=>by obtain⟨c0,c1,c2,c3⟩:=hu;go_simp);refine ahN 6 (iN qi (h:Int)) hS ?_ (hr:=fun u hu=>by go_simp);refine ahN 7 (.agg #[iN qi x1,iN qi x2]) hS ?_ (hr:=fun u hu=>by obtain⟨c0,c1,c2,c3⟩:=hu;go_simp);refine ahN 8 (pN (some ⟨cb,h*2,none⟩)) hS ?_ (hr:=fun u hu=>by go_simp);simp only[Act.put,List.setIfInBounds_toArray,List.set,List.getElem_toArray,List.getElem_cons_zero,List.getElem_cons_succ];obtain⟨hcg,hcbz,hWz⟩:=Kn.out;have hgb:=Hsh.out.2.2.2.2;have hhl:h<(B.pairs[i]).calls.length:=by rw[HL.out];exact hhL
 obtain⟨d0,d1⟩:=oV _ h _ (lG hhl);have d0':W6.cell? ⟨cb,h*2,none⟩=some (iN qi ((B.pairs[i]).calls[h]).1):=Kcc.out _ _ d0;have d1':W6.cell? ⟨cb,h*2+1,none⟩=some (iN qi ((B.pairs[i]).calls[h]).2):=Kcc.out _ _ d1;have e0:W6.frozen? ⟨cb,h*2,none⟩=false:=Kcf.out _;have e1:W6.frozen? ⟨cb,h*2+1,none⟩=false:=Kcf.out _;refine ahQ 9 (h:=ah1 (w':=((W6.drew.setCell ⟨cb,h*2,none⟩ (iN qi x1)).setCell ⟨cb,h*2+1,none⟩ (iN qi x2))) (by go_simp) ⟨fun _=> ?_, ?_⟩)
 ·obtain⟨c0,c1,c2,c3⟩:=hS;refine⟨?_, ?_, ?_, ?_⟩
  ·rw[wF _ _ _ _ (show cb≠w.heap.size+1+1+1 by omega),wF _ _ _ _ (show cb≠w.heap.size+1+1+1 by omega)];exact c0
  ·rw[wF _ _ _ _ (Ne.symm hcg),wF _ _ _ _ (Ne.symm hcg)];exact c1
  ·rw[wF _ _ _ _ (show cb≠w.heap.size+1 by omega),wF _ _ _ _ (show cb≠w.heap.size+1 by omega)];exact c2
  ·rw[wF _ _ _ _ (show cb≠w.heap.size+1 by omega),wF _ _ _ _ (show cb≠w.heap.size+1 by omega)];exact c3
 refine ahZ ?_;simp only[Act.put,List.getElem_toArray,List.getElem_cons_zero,List.getElem_cons_succ];have h8:=(K8.out.drew.far (c:=cb) (k:=h*2) (by omega) (iN qi x1)).far (c:=cb) (k:=h*2+1) (by omega) (iN qi x2);have h9:=(K9.out.drew.far (c:=cb) (k:=h*2) (by omega) (iN qi x1)).far (c:=cb) (k:=h*2+1) (by omega) (iN qi x2);have hwx:bX w.heap.size w ((W6.drew.setCell ⟨cb,h*2,none⟩ (iN qi x1)).setCell ⟨cb,h*2+1,none⟩ (iN qi x2)):=(Kwx.out.drew.setCell (p:=⟨cb,h*2,none⟩) (show w.heap.size<=cb by omega) _).setCell (p:=⟨cb,h*2+1,none⟩) (show w.heap.size<=cb by omega) _;have hrx:bG ((W6.drew.setCell ⟨cb,h*2,none⟩ (iN qi x1)).setCell ⟨cb,h*2+1,none⟩ (iN qi x2)) (some ⟨g,0,none⟩):=jm _ _ (jm _ _ Krx.out);have hgc: ∀j,((W6.drew.setCell ⟨cb,h*2,none⟩ (iN qi x1)).setCell ⟨cb,h*2+1,none⟩ (iN qi x2)).cell? ⟨g,j,none⟩=W6.cell? ⟨g,j,none⟩:=fun j=>by
  rw[wF _ _ _ _ (Ne.symm hcg),wF _ _ _ _ (Ne.symm hcg)];rfl
 have hcc: ∀(k:Nat) (y:Int×Int),(B.pairs[i]).calls[k]? =some y->((W6.drew.setCell ⟨cb,h*2,none⟩ (iN qi x1)).setCell ⟨cb,h*2+1,none⟩ (iN qi x2)).cell? ⟨cb,k*2,none⟩=some (iN qi (if k=h then (x1,x2) else y).1)/\((W6.drew.setCell ⟨cb,h*2,none⟩ (iN qi x1)).setCell ⟨cb,h*2+1,none⟩ (iN qi x2)).cell? ⟨cb,k*2+1,none⟩=some (iN qi (if k=h then (x1,x2) else y).2):=fun k y hy=>by
  obtain⟨y0,y1⟩:=oV _ k _ hy;have y0':W6.drew.cell? ⟨cb,k*2,none⟩=some (iN qi y.1):=Kcc.out _ _ y0;have y1':W6.drew.cell? ⟨cb,k*2+1,none⟩=some (iN qi y.2):=Kcc.out _ _ y1;by_cases c:k=h
  ·subst c;rw[if_pos rfl];constructor
   ·rw[wO _ _ _ _ (by intro e;simp only[Addr.mk.injEq] at e;omega)];exact World.cell?_setCell_same _ _ _ y0'
   ·refine World.cell?_setCell_same _ _ _ (?_: _=some (iN qi y.2));rw[wO _ _ _ _ (by intro e;simp only[Addr.mk.injEq] at e;omega)];exact y1'
  ·rw[if_neg c];constructor
   ·rw[wO _ _ _ _ (by intro e;simp only[Addr.mk.injEq] at e;omega),wO _ _ _ _ (by intro e;simp only[Addr.mk.injEq] at e;omega)];exact y0'
   ·rw[wO _ _ _ _ (by intro e;simp only[Addr.mk.injEq] at e;omega),wO _ _ _ _ (by intro e;simp only[Addr.mk.injEq] at e;omega)];exact y1'
 clear d0 d1 d0' d1' e0 e1 hS;generalize ((W6.drew.setCell ⟨cb,h*2,none⟩ (iN qi x1)).setCell ⟨cb,h*2+1,none⟩ (iN qi x2))=u3 at *;have Hend:Hid (∀u,(∀j,u.cell? ⟨g,j,none⟩=u3.cell? ⟨g,j,none⟩)->(∀j,u.cell? ⟨cb,j,none⟩=u3.cell? ⟨cb,j,none⟩)->bX w.heap.size w u->aB u ⟨ta,la,some ⟨g,0,none⟩,tc,lc,gc⟩ (fD B i h (x1,x2))):=lH fun u hu1 hu2 hb=>by
  refine ajM (V:=⟨ta,la,some ⟨b,o,none⟩,tc,lc,pc⟩) (cb:=cb) (cc:=cc) Hs.out rfl hi hb (fun j hj=> ?_) ?_ (fun k y hy=> ?_)
  ·have hxj:(B.pairs.map pr3)[j]? =some (pr3 B.pairs[j]):=by rw[List.getElem?_map,lG hj];rfl
   obtain⟨sa1,sc1,k1,_⟩:=Hrv.out.get j _ hxj;obtain⟨t0,t1,t2⟩:=ET _ _ _ k1;have hpo:B.pone j=B.pairs[j].one:=by unfold Bk.pone;rw[lG hj];rfl
   have hpt:B.ptwo j=B.pairs[j].two:=by unfold Bk.ptwo;rw[lG hj];rfl
   rw[hpo,hpt];refine⟨?_, ?_,fun hne=> ?_⟩
   ·rw[hu1,hgc];exact Kgo.out _ _ (by omega) t0
   ·rw[hu1,hgc];exact Kgo.out _ _ (by omega) t1
   ·rw[hu1,hgc,Kgo.out _ _ (by omega) t2];have k3:=Htr.out _ _ t2;rw[BH,<-Nat.add_assoc] at k3;exact k3.symm
  ·rw[hu1,hgc,HL.out];exact Kgi.out
  ·rw[hu2,hu2];exact hcc k y hy
 have Hwx:=lH hwx;have Hrx:=lH hrx;have Hne:=lH (And.intro hcg (And.intro hcbz hgb));clear hwx hrx hgc hcc hhl hi' hi0 hh' hh0 hcg hcbz hWz hgb;obtain⟨_,c0,c1,c2,c3,f0,f1,f2,f3⟩:=h9;obtain⟨_,e0,e1,e2,e3,g0,g1,g2,g3⟩:=h8;go_wp2;refine bodyPost_ret (v:= .agg #[iN qi B.hours,sL ta B.towns.length tc,sL la B.links.length lc,sL (some ⟨g,0,none⟩) B.pairs.length gc]) (by simp[results,Tryz.results49,go_sem,e0,e1,e2,e3]) rfl ?_;obtain⟨hcg,hcbz,hgb⟩:=Hne.out;have hbz:=aik Hwx.out (b:=w.heap.size+1+1) (show w.heap.size<=w.heap.size+1+1 by omega) rfl (iN qi B.hours) (sL ta B.towns.length tc) (sL la B.links.length lc) (sL (some ⟨g,0,none⟩) B.pairs.length gc);refine⟨g,gc, ?_,Hend.out _ (fun j=> ?_) (fun j=> ?_) hbz,jm _ _ (jm _ _ (jm _ _ (jm _ _ Hrx.out))),hbz⟩
 ·simp only[BkV.val]
 ·have hne:w.heap.size+1+1≠g:=by omega
  rw[wF _ _ _ _ hne,wF _ _ _ _ hne,wF _ _ _ _ hne,wF _ _ _ _ hne]
 ·have hne:w.heap.size+1+1≠cb:=by omega
  rw[wF _ _ _ _ hne,wF _ _ _ _ hne,wF _ _ _ _ hne,wF _ _ _ _ hne]
def an2 (B:Bk) (k n:Int):Int:=if btw k 0 ((B.pairs.length:Int)-1)=true then fF B (bP B n) else fF B false
theorem aok {B:Bk} {k n:Int} (h:an2 B k n=0):B.alarm=0/\btw k 0 ((B.pairs.length:Int)-1)=true/\btw n 0 (B.hours-1)=true:=by
 unfold an2 fF at h;by_cases hA:B.alarm=0
 ·have hh:=(gY hA).fine.hours;rw[if_pos hA,if_pos hA] at h
  cases hb:btw k 0 ((B.pairs.length:Int)-1) with
  |false=>rw[hb] at h;cases h
  |true=>
   rw[hb,if_pos rfl] at h;refine⟨hA,rfl, ?_⟩
   cases ht:bP B n with
   |false=>rw[ht] at h;cases h
   |true=>
    unfold bP at ht;rwa [show RowKit.wrap64 (B.hours-1)=B.hours-1 from IntWalk.wrap64_in _ (by omega)] at ht
 ·rw[if_neg hA,if_neg hA] at h
  split at h<;>exact absurd h hA
theorem Alike.trans {A B C:Bk} (s:Alike A B) (t:Alike B C):Alike A C:=
 ⟨t.hours.trans s.hours,t.towns.trans s.towns,t.links.trans s.links,t.len.trans s.len,fun i=>(t.one i).trans (s.one i),fun i=>(t.two i).trans (s.two i)⟩
theorem Alike.symm {A B:Bk} (s:Alike A B):Alike B A:=
 ⟨s.hours.symm,s.towns.symm,s.links.symm,s.len.symm,fun i=>(s.one i).symm,fun i=>(s.two i).symm⟩
theorem Alike.refl (A:Bk):Alike A A:=⟨rfl,rfl,rfl,rfl,fun _=>rfl,fun _=>rfl⟩
theorem aju {w:wD} {b p:Nat} {h x y:Int} {t1 t2 t3:Option Addr} {n1 n2 n3 m1 m2 m3:Nat} (r:dW w b (iN qi h) (sL t1 n1 m1) (sL t2 n2 m2) (sL t3 n3 m3)) (h0:w.cell? ⟨b,p,none⟩=some (iN qi x)) (h1:w.cell? ⟨b,p+1,none⟩=some (iN qi y)):3<p:=by
 rcases p with _ |_ |_ |_ |p
 ·rw[Nat.zero_add,r.c1] at h1;cases h1
 ·rw[Nat.zero_add,r.c1] at h0;cases h0
 ·rw[show 0+1+1=2 from rfl,r.c2] at h0;cases h0
 ·rw[show 0+1+1+1=3 from rfl,r.c3] at h0;cases h0
 ·omega
theorem ajT {w:wD} {b p:Nat} {h:Int} {s:ByteArray} {t1 t2 t3:Option Addr} {n1 n2 n3 m1 m2 m3:Nat} (r:dW w b (iN qi h) (sL t1 n1 m1) (sL t2 n2 m2) (sL t3 n3 m3)) (h0:w.cell? ⟨b,p,none⟩=some (.string s)):3<p:=by
 rcases p with _ |_ |_ |_ |p
 ·rw[r.c0] at h0;cases h0
 ·rw[Nat.zero_add,r.c1] at h0;cases h0
 ·rw[show 0+1+1=2 from rfl,r.c2] at h0;cases h0
 ·rw[show 0+1+1+1=3 from rfl,r.c3] at h0;cases h0
 ·omega
theorem aB.set {w:wD} {b k:Nat} {h:Int} {t1 t2 t3:Option Addr} {n1 n2 n3 m1 m2 m3:Nat} {V:BkV} {B:Bk} (hs:aB w V B) (r:dW w b (iN qi h) (sL t1 n1 m1) (sL t2 n2 m2) (sL t3 n3 m3)) (hk:k<=3) (v:Value):aB (w.setCell ⟨b,k,none⟩ v) V B:=by
 have keep: ∀{c o:Nat} {x:Value},w.cell? ⟨c,o,none⟩=some x->(c=b->3<o)->(w.setCell ⟨b,k,none⟩ v).cell? ⟨c,o,none⟩=some x:=fun {c o x} h0 h1=>by
  rw[wO _ _ _ _ (by intro e;simp only[Addr.mk.injEq] at e;have:=h1 e.1.symm;omega)];exact h0
 have band: ∀{sa:Option Addr} {l:List (Int×Int)},SlB w sa l->SlB (w.setCell ⟨b,k,none⟩ v) sa l:=fun {sa l} hb i x hx=>by
  obtain⟨c,o,e,y0,y1⟩:=hb i x hx;have hlt:c=b->3<o+i*2:=fun e=>by subst e;exact aju r y0 y1
  exact⟨c,o,e,keep y0 hlt,keep y1 fun e=>by have:=hlt e;omega⟩
 refine⟨fun i t ht=> ?_,fun i L hL=> ?_,fun i L hL=> ?_,hs.nt,hs.nl,hs.np,hs.tc⟩
 ·obtain⟨c,o,e,y0⟩:=hs.towns i t ht;exact⟨c,o,e,keep y0 fun e=>by subst e;exact ajT r y0⟩
 ·obtain⟨c,o,sa,sc,e,y0,y1,y2,y3,y4⟩:=hs.links i L hL;have hlt:c=b->3<o+i*3:=fun e=>by subst e;exact aju r y0 y1
  exact⟨c,o,sa,sc,e,keep y0 hlt,keep y1 fun e=>by have:=hlt e;omega,keep y2 fun e=>by have:=hlt e;omega,band y3,y4⟩
 ·obtain⟨c,o,sa,sc,e,y0,y1,y2,y3,y4⟩:=hs.pairs i L hL;have hlt:c=b->3<o+i*3:=fun e=>by subst e;exact aju r y0 y1
  exact⟨c,o,sa,sc,e,keep y0 hlt,keep y1 fun e=>by have:=hlt e;omega,keep y2 fun e=>by have:=hlt e;omega,band y3,y4⟩
theorem aB.put4 {w:wD} {b:Nat} {h h':Int} {t1 t2 t3 s1 s2 s3:Option Addr} {n1 n2 n3 m1 m2 m3 p1 p2 p3 q1 q2 q3:Nat} {V:BkV} {B:Bk} (hs:aB w V B) (r:dW w b (iN qi h) (sL t1 n1 m1) (sL t2 n2 m2) (sL t3 n3 m3)):
  aB ((((w.setCell ⟨b,0,none⟩ (iN qi h')).setCell ⟨b,1,none⟩ (sL s1 p1 q1)).setCell ⟨b,2,none⟩ (sL s2 p2 q2)).setCell ⟨b,3,none⟩ (sL s3 p3 q3)) V B:=by
 have r1:dW (w.setCell ⟨b,0,none⟩ (iN qi h')) b (iN qi h') (sL t1 n1 m1) (sL t2 n2 m2) (sL t3 n3 m3):=by
  obtain⟨_,c0,c1,c2,c3,f0,f1,f2,f3⟩:=r;refine aij ?_ ?_ ?_ ?_ ?_ ?_ ?_ ?_<;>go_simp
 have r2:dW ((w.setCell ⟨b,0,none⟩ (iN qi h')).setCell ⟨b,1,none⟩ (sL s1 p1 q1)) b (iN qi h') (sL s1 p1 q1) (sL t2 n2 m2) (sL t3 n3 m3):=by
  obtain⟨_,c0,c1,c2,c3,f0,f1,f2,f3⟩:=r;refine aij ?_ ?_ ?_ ?_ ?_ ?_ ?_ ?_<;>go_simp
 have r3:dW (((w.setCell ⟨b,0,none⟩ (iN qi h')).setCell ⟨b,1,none⟩ (sL s1 p1 q1)).setCell ⟨b,2,none⟩ (sL s2 p2 q2)) b (iN qi h') (sL s1 p1 q1) (sL s2 p2 q2) (sL t3 n3 m3):=by
  obtain⟨_,c0,c1,c2,c3,f0,f1,f2,f3⟩:=r;refine aij ?_ ?_ ?_ ?_ ?_ ?_ ?_ ?_<;>go_simp
 exact(((hs.set r (by decide) _).set r1 (by decide) _).set r2 (by decide) _).set r3 (by decide) _
end Go.Proofs.YtaikibfkggglgaaGreatDoor
