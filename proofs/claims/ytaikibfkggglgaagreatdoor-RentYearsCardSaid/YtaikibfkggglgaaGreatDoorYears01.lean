/- A part of the proof of a law; no conditions of its own. -/
import Derived.Test.YtaikibfkggglgaaGreatDoorW18
import Derived.Test.YtaikibfkggglgaaGreatDoorW22
import Derived.OrdersHeld
import Derived.Laws.AppendOwn
open Go.RowKit renaming Below→bX
open Go renaming Value→vL, World→wD
open Go.IntKind renaming i64→qi
open Go.Value renaming int→iN, slice→sL, pointer→pN
open Go.Obj renaming cells→cL
set_option maxRecDepth 100000
open Nat renaming le_refl→nR
open Go.Lib renaming hid→lH
open Go.Proofs.Tryz renaming prog→tP
open List renaming getElem?_eq_getElem→lG
open Array renaming getElem?_eq_some_iff→aS
open List renaming getElem?_eq_some_iff→lS
open Go.World renaming block_lt_of_cell?→wBk
set_option maxHeartbeats 4000000
namespace Go.Proofs.YtaikibfkggglgaaGreatDoor
open Go.RowKit Go.Rent Go.Tp Go.Conc Go.Deep Go.ChangeShapes Go.WideShapes
theorem open_ints {H:Type} {enc:TypeId×vL->H} {w:wD} {base b0:Nat} {spare:Nat->Bool} {held:Bool} {r:Reach} {v:vL} {d:DataW H} {p:List MemPlace}
  (hv:Value.okWide tP w r b0 33 v) (h:DataW.Trod enc tP w base spare held 33 v d p): ∃(sa:Option Addr) (l:List Int) (cap:Nat),v= sL sa l.length cap/\l.length<=cap/\cap<=maxLen/\SlI w sa l:=by
 obtain⟨a,len,cap,rfl⟩:=okWide_slice Tryz.underlying33 hv;obtain⟨fuel,hf⟩:=h;have hf':DataW.trod enc tP w base spare held fuel 33 [sL a len cap]=some (d,p):=hf
 rcases open_slice1 Tryz.underlying33 (by kernel_rfl) hf' with ⟨e,_⟩ |⟨a,len,cap,m,n,V,D,Pl,e,hb,hl,hm,hmm,_,hx⟩
 ·simp only[List.cons.injEq,and_true,Value.slice.injEq] at e;obtain⟨rfl,rfl,rfl⟩:=e;exact⟨none,[],0,rfl,nR _,Nat.zero_le _,fun i x h=>by simp at h⟩
 ·simp only[List.cons.injEq,and_true,Value.slice.injEq] at e;obtain⟨rfl,rfl,rfl⟩:=e;have hlm:len<=m:=by rw[hmm];split<;>omega
  obtain⟨l,hll,hp⟩:=tK len (P:=fun i (y:Int)=>w.cell? (a.add i)=some (iN qi y)) (fun i hi=>by
   obtain⟨h0,h2⟩:=hx i (by omega);obtain⟨s,e0,_⟩:=DataW.trod_int Tryz.underlying3 h2;simp only[List.cons.injEq,and_true] at e0;exact⟨s,by rw[h0,e0]⟩)
  refine⟨some a,l,cap,by rw[hll],by rw[hll];exact hl,hm,fun i y hy=> ?_⟩;have hi:=(lS.1 hy).1;have z0:=(hp 0 _ (lG (by omega)));have ea:=BA z0;have g0:=hp i y hy;rw[ea,Bz] at g0;exact⟨a.block,a.off,by rw[<-ea],g0⟩
theorem SlI.of_cell {u w:wD} (hc: ∀a,u.cell? a=w.cell? a) {sa:Option Addr} {xs:List Int} (h:SlI w sa xs):SlI u sa xs:=fun i x hx=>by
 obtain⟨b,o,e,h0⟩:=h i x hx;exact⟨b,o,e,by rw[hc];exact h0⟩
end Go.Proofs.YtaikibfkggglgaaGreatDoor
namespace Go.Proofs.YtaikibfkggglgaaGreatDoor
open Go.RowKit Go.Rent Go.Tp Go.Conc
def aoS (n p:Int):Int:=min 6 (upC n p)
def aoL (p:Int) (x:Int×Int):Int×Int:=(aoS x.1 p,aoS x.2 p)
def aoH (B:Bk) (p:Int):Bk:={B with pairs:=B.pairs.map fun q=>{q with calls:=q.calls.map (aoL p)}}
theorem apg (p:Int) (x:Int×Int):dw (aoL p x)=dw (upB p x):=by
 unfold dw aoL upB aoS;simp only[decide_eq_decide];omega
theorem aph {p:Int} {x:Int×Int} (h:dw (upB p x)=true):aoL p x=upB p x:=by
 unfold dw upB at h;simp only[decide_eq_true_eq] at h;unfold aoL upB aoS;rw[Int.min_eq_right (by omega),Int.min_eq_right (by omega)]
theorem apj (p:Int) (l:List (Int×Int)):jc (l.map (aoL p))=jc (l.map (upB p)):=by
 unfold jc
 induction l with
 |nil=>rfl
 |cons x l ih=>simp only[List.map_cons,List.any_cons,ih,apg]
theorem ao0 (nt hours p:Int): ∀(l:List Pr) (S:List (Int×Int)),fP nt hours S (l.map fun q=>{q with calls:=q.calls.map (aoL p)})=fP nt hours S (l.map fun q=>{q with calls:=q.calls.map (upB p)})
 | [],S=>rfl
 |x::l,S=>by
  simp only[List.map_cons,fP,List.length_map,apj,ao0 nt hours p l]
theorem ao1 (B:Bk) (p:Int):(aoH B p).alarm=(bQ B p).alarm:=by
 simp only[Bk.alarm,kH,alK,dR,aoH,bQ,List.length_map,ao0]
theorem ao2 {nt hours:Int}: ∀(l:List Pr) (S:List (Int×Int)),fP nt hours S l=0-> ∀q∈l,jc q.calls=false
 | [],S,_,q,hq=>by cases hq
 |x::l,S,h,q,hq=>by
  unfold fP at h
  split at h
  ·omega
  split at h
  ·omega
  split at h
  ·omega
  split at h
  ·split at h
   ·omega
   ·rename_i hb
    rcases List.mem_cons.1 hq with rfl |hq
    ·simpa using hb
    ·exact ao2 l _ h q hq
  ·omega
theorem apk {B:Bk} (h:B.alarm=0): ∀q∈B.pairs,jc q.calls=false:=fun q hq=>by
 obtain⟨_,_,_,h2⟩:=GX h;unfold dR at h2
 split at h2
 ·omega
 ·exact ao2 _ _ h2 q hq
theorem ao3 {B:Bk} {p:Int} (h:(bQ B p).alarm=0):aoH B p=bQ B p:=by
 have hb:=apk h;unfold aoH bQ;have:(B.pairs.map fun q=>({q with calls:=q.calls.map (aoL p)}:Pr))=B.pairs.map fun q=>{q with calls:=q.calls.map (upB p)}:=by
  apply List.map_congr_left;intro q hq;have hq2:=hb {q with calls:=q.calls.map (upB p)} (by unfold bQ;exact List.mem_map.2 ⟨q,hq,rfl⟩);have:q.calls.map (aoL p)=q.calls.map (upB p):=by
   apply List.map_congr_left;intro x hx;refine aph ?_;unfold jc at hq2;rw[List.any_eq_false] at hq2;have:=hq2 (upB p x) (List.mem_map.2 ⟨x,hx,rfl⟩);simpa using this
  rw[this]
 rw[this]
end Go.Proofs.YtaikibfkggglgaaGreatDoor
namespace Go.Proofs.YtaikibfkggglgaaGreatDoor
open Go.RowKit Go.Tp
section
variable {P:Program} {ops:Array Oper} {Q:Exit->Act->wD->Prop} {z:Nat} {S:wD->Prop}
def aji (ops:Array Oper):Nat->Nat->Nat->Bool
 | 0,_,_=>false
 |f+1,j,i=>((ops[j]?).map fun o=>o.after.any fun e=>Region.binds .any e&&(e.on==i||aji ops f e.on i)).getD false
def Shut (ops:Array Oper) (listed:Array Bool):Prop:= ∀(j:Nat) (o:Oper),ops[j]? =some o->listed.getD j false=true-> ∀e∈o.after,Region.binds .any e=true->listed.getD e.on false=true
def alz (ops:Array Oper) (listed:Array Bool):Bool:=(List.range ops.size).all fun j=> !listed.getD j false||((ops[j]?).map fun o=>o.after.all fun e=> !Region.binds .any e||listed.getD e.on false).getD true
theorem ajm {ops:Array Oper} {listed:Array Bool} (h:alz ops listed=true):Shut ops listed:=fun j o hj hl e he hb=>by
 unfold alz at h;rw[List.all_eq_true] at h;have h1:=h j (List.mem_range.2 (aS.1 hj).1);rw[hj,hl] at h1;simp only[Bool.not_true,Bool.false_or,Option.map_some,Option.getD_some,Array.all_eq_true] at h1;obtain⟨k,hk,rfl⟩:=Array.getElem_of_mem he;have h2:=h1 k hk;rw[hb] at h2;simpa using h2
theorem ajk {ops:Array Oper} {listed:Array Bool} (hs:Shut ops listed): ∀(f j i:Nat),(∀o,ops[j]? =some o-> ∀e∈o.after,Region.binds .any e=true->listed.getD e.on false=true)->aji ops f j i=true->listed.getD i false=true
 | 0,_,_,_,h=>by cases h
 |f+1,j,i,hj,h=>by
  unfold aji at h
  cases ho:ops[j]? with
  |none=>rw[ho] at h;cases h
  |some o=>
   rw[ho] at h;simp only[Option.map_some,Option.getD_some,Array.any_eq_true,Bool.and_eq_true,Bool.or_eq_true,beq_iff_eq] at h;obtain⟨k,hk,hb,h1⟩:=h;have hl:=hj o ho _ (Array.getElem_mem hk) hb
   rcases h1 with h1 |h1
   ·rw[<-h1];exact hl
   ·exact ajk hs f _ i (fun o2 ho2 e he hb2=>hs _ o2 ho2 hl e he hb2) h1
theorem ajl {listed:Array Bool} {j k:Nat} (h:listed.getD k false=true):(listed.setIfInBounds j true).getD k false=true:=by
 by_cases c:j=k
 ·subst c
  rcases Nat.lt_or_ge j listed.size with h' |h'
  ·simp[h']
  ·simp[Array.getElem?_eq_none h'] at h
 ·rcases Nat.lt_or_ge k listed.size with h' |h'
  ·simp[h',c] at h ⊢; exact h
  ·simp[Array.getElem?_eq_none h'] at h
theorem ajn {ops:Array Oper} {listed:Array Bool} (hs:Shut ops listed) {j:Nat} (hj: ∀o,ops[j]? =some o-> ∀e∈o.after,Region.binds .any e=true->listed.getD e.on false=true):Shut ops (listed.setIfInBounds j true):=fun k o hk hl e he hb=>by
 by_cases c:j=k
 ·subst c;exact ajl (hj o hk e he hb)
 ·refine ajl (hs k o hk ?_ e he hb)
  rcases Nat.lt_or_ge k listed.size with h' |h'
  ·simp[h',c] at hl ⊢; exact hl
  ·have e2:(listed.setIfInBounds j true).getD k false=false:=by
    simp only[Array.getD_eq_getD_getElem?];rw[Array.getElem?_eq_none (by simpa using h')];rfl
   rw[e2] at hl
   cases hl
def ah6 (P:Program) (K:vL->wD->Prop):Result Next->Prop
 | .ok (.value v) w'=>K v w'
 | .ok .skip w'=>K undef w'
 | .ok (.enter f args) w'=>Calls P f args w' fun e w''=> ∃v,e= .returned v/\K v w''
 |_=>False
def ahO (P:Program) (o:Oper) (a:Act) (w:wD) (K:vL->wD->Prop):Prop:=ah6 P K ((execOp a.eval o).run P w)
theorem ahO.mono {o:Oper} {a:Act} {w:wD} {K K':vL->wD->Prop} (h:ahO P o a w K) (hk: ∀v w',K v w'->K' v w'):ahO P o a w K':=by
 unfold ahO at *;generalize (execOp a.eval o).run P w=r at *
 cases r with
 |ok n w'=>
  cases n<;>simp only[ah6] at h ⊢ <;>
   first
    |exact hk _ _ h
    |exact h.mono fun e w'' ⟨v,e1,k⟩=>⟨v,e1,hk _ _ k⟩
 |halt x w'=>exact h
theorem ahO.wp {o:Oper} {a:Act} {w:wD} {K:Act->wD->Prop} (h:ahO P o a w fun v w'=>K (a.put o.dst v) w'):o.wp P a w K Q:=by
 unfold ahO at h;unfold Oper.wp;generalize (execOp a.eval o).run P w=r at *
 cases r with
 |ok n w'=>
  cases n<;>simp only[ah6,Oper.upon] at h ⊢ <;>
   first
    |exact h
    | (refine h.mono ?_;rintro e w'' ⟨v,rfl,k⟩;exact k)
 |halt x w'=>exact h.elim
def LaS (P:Program) (ops:Array Oper) (Q:Exit->Act->wD->Prop) (z:Nat) (S:wD->Prop):Nat->Array Bool->Act->wD->Prop
  | 0,listed,a,w=>Region.ready .any ops listed= []/\Q .normal a w
  |n+1,listed,a,w=>Region.ready .any ops listed≠ []/\ ∀i∈Region.ready .any ops listed,∃o,ops[i]? =some o/\
      ((Region.wanted o (yielded ops a.tmps)=false/\LaS P ops Q z S n (listed.setIfInBounds i true) (a.put o.dst undef) w)\/
       (Region.wanted o (yielded ops a.tmps)=true/\ahO P o a w fun v w'=>(i≠z/\i≠z+1->S w')/\LaS P ops Q z S n (listed.setIfInBounds i true) (a.put o.dst v) w'))
theorem ah7: ∀(n:Nat) (listed:Array Bool) (a:Act) (w:wD),LaS P ops Q z S n listed a w->wpAny P .any ops Q n listed a w
  | 0,_,_,_,h=>h
  |n+1,_,_,_,h=>⟨fun e=>absurd e h.1,fun i hi=>by
      obtain⟨o,ho,hh⟩:=h.2 i hi;unfold Go.wpOp;simp only[ho]
      rcases hh with ⟨hw,h2⟩ |⟨hw,h2⟩
      · simp only[hw,Bool.false_eq_true,if_false];exact ah7 n _ _ _ h2
      · simp only[hw,if_true]
        exact .inl (ahO.wp (h2.mono fun v w' k=>ah7 n _ _ _ k.2))⟩
theorem aiJ {i:Nat} {oi:Oper} {v:vL} (hi:ops[i]? =some oi) (hsel: ∀(j:Nat) (o:Oper) cs b,ops[j]? =some o->o.op≠ .select cs b) (hz:ops.size<=z\/ ∃f,aji ops f z i=true) (hz2:ops.size<=z+1\/ ∃f,aji ops f (z+1) i=true):
    ∀(n:Nat) (listed:Array Bool) (a:Act) (w:wD),Shut ops listed->
      (∀j oj,ops[j]? =some oj->j≠i->listed.getD j true=false->(∀e∈oj.after,Region.binds .any e=true->e.on≠i)->oi.apart ops oj=true)->
      i∈Region.ready .any ops listed->S w->Region.wanted oi (yielded ops a.tmps)=true->(∀u,S u->(execOp a.eval oi).run P u= .ok (.value v) u)->LaS P ops Q z S n (listed.setIfInBounds i true) (a.put oi.dst v) w->LaS P ops Q z S (n+1) listed a w:=by
  intro n
  induction n with
  |zero=>
    intro listed a w _ _ hr hS hw hy H;refine⟨fun h=>(by rw[h] at hr;cases hr),fun j hj=> ?_⟩;by_cases hji:j=i
    · subst hji
      refine⟨oi,hi,.inr ⟨hw, ?_⟩⟩;unfold ahO;rw[hy w hS];exact⟨fun _=>hS,H⟩
    · have h1:=ready_mono hj hji
      rw[H.1] at h1
      cases h1
  |succ n ih=>
    intro listed a w hsh hfree hr hS hw hy H;refine⟨fun h=>(by rw[h] at hr;cases hr),fun j hj=> ?_⟩;by_cases hji:j=i
    · subst hji
      refine⟨oi,hi,.inr ⟨hw, ?_⟩⟩;unfold ahO;rw[hy w hS];exact⟨fun _=>hS,H⟩
    · obtain⟨oj',hoj',H2⟩:=H.2 j (ready_mono hj hji)
      obtain⟨hjun,oj,hoj,hall⟩:=mem_ready.1 hj;have e1:oj'=oj:=Option.some.inj (hoj'.symm.trans hoj);rw[e1] at H2;have hun: ∀k,k=i->listed.getD k false=false:=fun k hk=>by
        subst hk;have h0:=(mem_ready.1 hr).1
        rcases Nat.lt_or_ge k listed.size with h' |h'
        · simp[h'] at h0 ⊢; exact h0
        · simp[Array.getElem?_eq_none h']
      have hnot: ∀e∈oj.after,Region.binds .any e=true->e.on≠i:=fun e he hb heq=>by
        have h1:=hall e he hb;rw[hun _ heq] at h1
        cases h1
      have hno: ∀y,(ops.size<=y\/ ∃f,aji ops f y i=true)->j≠y:=fun y hy e=>by
        subst e;have hjl:j<ops.size:=(aS.1 hoj).1
        rcases hy with hy |⟨f,hy⟩
        · omega
        · have:=ajk hsh f j i (fun o ho e he hb=>by rw[hoj] at ho;cases ho;exact hall e he hb) hy
          rw[hun i rfl] at this
          cases this
      have hjz:j≠z/\j≠z+1:=⟨hno z hz,hno (z+1) hz2⟩;obtain⟨h1,h2,h3⟩:=Oper.apart_spec (hfree j oj hoj hji hjun hnot);have hwj:Region.wanted oj (yielded ops (a.put oi.dst v).tmps)=Region.wanted oj (yielded ops a.tmps):=wanted_put oj a oi.dst v h1;have hej:execOp (a.put oi.dst v).eval oj=execOp a.eval oj:=execOp_put oj (fun cs b=>hsel j oj cs b hoj) a oi.dst v h1;have hfree': ∀k ok,ops[k]? =some ok->k≠i->(listed.setIfInBounds j true).getD k true=false->
          (∀e∈ok.after,Region.binds .any e=true->e.on≠i)->oi.apart ops ok=true:=fun k ok hk hki hun' hno=>by
        refine hfree k ok hk hki ?_ hno;by_cases hjk:j=k
        · subst hjk;exact hjun
        · rw[getD_set_ne true hjk] at hun';exact hun'
      have key: ∀(vj:vL) (w':wD),S w'->LaS P ops Q z S n ((listed.setIfInBounds i true).setIfInBounds j true) ((a.put oi.dst v).put oj.dst vj) w'->LaS P ops Q z S (n+1) (listed.setIfInBounds j true) (a.put oj.dst vj) w':=fun vj w' hS' k=>by
        refine ih (listed.setIfInBounds j true) (a.put oj.dst vj) w' (ajn hsh fun o ho e he hb=>by rw[hoj] at ho;cases ho;exact hall e he hb) hfree' (ready_mono hr (Ne.symm hji)) hS' ?_ (fun u hu=> ?_) ?_
        · rw[wanted_put oi a oj.dst vj h3];exact hw
        · rw[execOp_put oi (fun cs b=>hsel i oi cs b hi) a oj.dst vj h3];exact hy u hu
        · rw[Array.setIfInBounds_comm _ _ hji,<-Act.put_comm a v vj h2]
          exact k
      refine⟨oj,hoj, ?_⟩
      rcases H2 with ⟨hw2,k⟩ |⟨hw2,k⟩
      · exact .inl ⟨hwj.symm.trans hw2,key _ _ hS k⟩
      · refine .inr ⟨hwj.symm.trans hw2, ?_⟩
        unfold ahO at k ⊢;rw[hej] at k;exact ahO.mono (o:=oj) (a:=a) (w:=w) k fun vj w' hk=>⟨hk.1,key vj w' (hk.1 hjz) hk.2⟩
theorem ahN (i:Nat) {o:Oper} (v:vL) {n:Nat} {listed:Array Bool} {a:Act} {w:wD} (hS:S w) (h:LaS P ops Q z S n (listed.setIfInBounds i true) (a.put o.dst v) w) (ho:ops[i]? =some o:=by rfl) (hw:Region.wanted o (yielded ops a.tmps)=true:=by rfl) (hr: ∀u,S u->(execOp a.eval o).run P u= .ok (.value v) u)
  (hs:Region.noSelect ops=true:=by kernel_rfl) (hf:Region.free .any ops listed i=true:=by kernel_rfl) (hc:(Region.ready .any ops listed).contains i=true:=by kernel_rfl) (hsh:alz ops listed=true:=by kernel_rfl) (hz:ops.size<=z\/ ∃f,aji ops f z i=true:=by first | (refine .inl ?_;decide) | (refine .inr ⟨1, ?_⟩;decide+kernel) | (refine .inr ⟨2, ?_⟩;decide+kernel) | (refine .inr ⟨3, ?_⟩;decide+kernel) | (refine .inr ⟨6, ?_⟩;decide+kernel)) (hz2:ops.size<=z+1\/ ∃f,aji ops f (z+1) i=true:=by first | (refine .inl ?_;decide) | (refine .inr ⟨1, ?_⟩;decide+kernel) | (refine .inr ⟨2, ?_⟩;decide+kernel) | (refine .inr ⟨3, ?_⟩;decide+kernel) | (refine .inr ⟨6, ?_⟩;decide+kernel)):LaS P ops Q z S (n+1) listed a w:=
 aiJ ho (Region.noSelect_spec hs) hz hz2 n listed a w (ajm hsh) (Region.free_spec ho hf) (by simpa using hc) hS hw hr h
theorem ahQ (i:Nat) {o:Oper} {n:Nat} {listed:Array Bool} {a:Act} {w:wD} (ho:ops[i]? =some o:=by rfl) (hw:Region.wanted o (yielded ops a.tmps)=true:=by rfl) (hc:Region.ready .any ops listed= [i]:=by kernel_rfl) (h:ahO P o a w fun v w'=>(i≠z/\i≠z+1->S w')/\LaS P ops Q z S n (listed.setIfInBounds i true) (a.put o.dst v) w'):LaS P ops Q z S (n+1) listed a w:=
 ⟨by rw[hc];exact List.cons_ne_nil _ _,fun j hj=>by
  rw[hc,List.mem_singleton] at hj;subst hj;exact⟨o,ho,.inr ⟨hw,h⟩⟩⟩
theorem aie (i j:Nat) {oi oj:Oper} {n:Nat} {listed:Array Bool} {a:Act} {w:wD} (h1:ahO P oi a w fun v w'=>(i≠z/\i≠z+1->S w')/\LaS P ops Q z S n (listed.setIfInBounds i true) (a.put oi.dst v) w') (h2:ahO P oj a w fun v w'=>(j≠z/\j≠z+1->S w')/\LaS P ops Q z S n (listed.setIfInBounds j true) (a.put oj.dst v) w')
  (hoi:ops[i]? =some oi:=by rfl) (hoj:ops[j]? =some oj:=by rfl) (hwi:Region.wanted oi (yielded ops a.tmps)=true:=by rfl) (hwj:Region.wanted oj (yielded ops a.tmps)=true:=by rfl) (hc:Region.ready .any ops listed= [i,j]:=by kernel_rfl):LaS P ops Q z S (n+1) listed a w:=
 ⟨by rw[hc];exact List.cons_ne_nil _ _,fun k hk=>by
  rw[hc,List.mem_cons,List.mem_singleton] at hk
  rcases hk with rfl |rfl
  ·exact⟨oi,hoi,.inr ⟨hwi,h1⟩⟩
  ·exact⟨oj,hoj,.inr ⟨hwj,h2⟩⟩⟩
theorem aif {id:Nat} {a:Act} {w:wD} (z n:Nat) (S:wD->Prop) (hm:P.follows .mixedOrders=true) (h:LaS P ops Q z S n (Array.replicate n false) a w.drew) (hn:ops.size=n:=by rfl):(Code.region id ops true).wp P Q a w:=
 wp_region_any hm (by rw[hn];exact ah7 _ _ _ _ h)
theorem ahZ {listed:Array Bool} {a:Act} {w:wD} (h:Q .normal a w) (hr:Region.ready .any ops listed= []:=by kernel_rfl):LaS P ops Q z S 0 listed a w:=⟨hr,h⟩
theorem ah0 {o:Oper} {a:Act} {w w':wD} {v:vL} {K:vL->wD->Prop} (hr:(execOp a.eval o).run P w= .ok (.value v) w') (h:K v w'):ahO P o a w K:=by unfold ahO;rw[hr];exact h
theorem ah1 {o:Oper} {a:Act} {w w':wD} {K:vL->wD->Prop} (hr:(execOp a.eval o).run P w= .ok .skip w') (h:K undef w'):ahO P o a w K:=by unfold ahO;rw[hr];exact h
theorem ahW {o:Oper} {a:Act} {w w':wD} {f:FuncId} {args:Array vL} {K:vL->wD->Prop} (hr:(execOp a.eval o).run P w= .ok (.enter f args) w') (h:Calls P f args w' fun e w''=> ∃v,e= .returned v/\K v w''):ahO P o a w K:=by unfold ahO;rw[hr];exact h
theorem ajp {o:Oper} {rest:List Oper} {a:Act} {w:wD} (hw:Region.wanted o (yielded ops a.tmps)=true:=by rfl) (h:ahO P o a w fun v w'=>wpList P ops Q rest (a.put o.dst v) w'):wpList P ops Q (o::rest) a w:=by
 unfold wpList;rw[if_pos hw];exact .inl h.wp
theorem aii {o:Oper} {a:Act} {w:wD} {K:vL->wD->Prop} (s x:Operand) (t:TypeId)
  (ho:o.op= .call {callee:= .builtin .append,args:= #[s,x],argTypes:= #[t,t]})
  (base:Nat) (e:TypeId) (i:TypeInfo) (z:vL) (size bytes:Nat) (ht:P.underlying t=some (.slice e)) (hi:P.info? e=some i) (hz:i.zero=some z)
  (hsize:i.size=size) (hby:i.bytes=bytes) (hzs:z.cells.size=size) (hsz:0<size)
  (v:vL) (n:Nat) (xs:List vL) (hs:a.eval s=v) (hown:w.ownsRow base e size v n xs)
  (ad:Addr) (m c:Nat) (news:List vL) (hx:a.eval x= sL (some ad) m c) (hl:news.length=m*size) (hnews: ∀j u,news[j]? =some u->w.cell? (ad.add j)=some u) (h1: ∀u∈news,u.oneCell'=true)
  (h63:n+m<=maxLen) (hbytes:(n+m)*bytes<=140737488355328) (hbase:base<=w.heap.size)
  (h: ∀v' w',w'.ownsRow base e size v' (n+m) (xs++news)->w.grownBy w' v.ownBlock->(v'= sL none 0 0↔v= sL none 0 0/\m=0)->K v' w'):ahO P o a w K:=by
 obtain⟨v',w',hr,h2,h3,h4⟩:=run_append_own (P:=P) w base t o.type e i z size bytes ht hi hz hsize hby hzs hsz v n xs hown ad m c news hl hnews h1 h63 hbytes hbase;unfold ahO execOp;simp only[ho,resolve,invoke,builtin,Sem.run_bind,Sem.run_pure,Result.andThen_ok,List.map_toArray,List.map_cons,List.map_nil,hs,hx,hr];exact h v' w' h2 h3 h4
end
end Go.Proofs.YtaikibfkggglgaaGreatDoor
namespace Go.Proofs.YtaikibfkggglgaaGreatDoor
open Go.RowKit Go.Rent Go.Tp Go.Conc
theorem ao4 {w:wD} {l:List ByteArray} {a:Option Addr} (h:SlS w a l) {k:Nat} (hk:k<l.length): ∃b o,a=some ⟨b,o,none⟩/\w.cell? ⟨b,o+k,none⟩=some (.string l[k]):=h k _ (lG hk)
theorem r69 (l:List ByteArray) (xa ya:Option Addr) (xc yc:Nat) (w:wD) (hx:SlS w xa l) (hy:SlS w ya l) (hl:l.length<=1000000):
  Calls tP 69 #[sL xa l.length xc,sL ya l.length yc] w fun e w'=>e= .returned (.bool true)/\bX w.heap.size w w':=by
 have HX:=lH hx;have HY:=lH hy;clear hx hy;have hne1:((l.length:Int) != (l.length:Int))=false:=by simp
 have hne2:(l.length != l.length)=false:=by simp
 go_enter Tryz.func69,Tryz.ntmps69
 go_wp2_with fail
 go_loopw [5] (fun i wr=> ∃k:Nat,k<=l.length/\i= iN qi (k:Int)/\ ∃n,wr=w.drewN n) (fun i _=>l.length-(intOf i).toNat)
 case atStart=>exact⟨0,Nat.zero_le _,rfl,0,rfl⟩
 case round=>
  obtain⟨k,hk,rfl,n,rfl⟩:=hrel;by_cases hlt:k<l.length
  ·obtain⟨tb,tofs,rfl,h1⟩:=ao4 HX.out hlt;obtain⟨sb,sofs,rfl,h3⟩:=ao4 HY.out hlt;generalize l[k]=t at *;have hk1:(k:Int)<(l.length:Int):=by omega
   go_wp2_with fail
   go_quiet (fail)
   go_wp2;exact⟨⟨k+1,by omega,rfl,n+nq,rfl⟩,by simp[intOf];omega⟩
  ·have hl: ¬(k:Int)<(l.length:Int):=by omega
   go_wp2;go_ret;exact⟨rfl,aV (Below.refl _ _) _⟩
section
variable {P:Program} {ops:Array Oper} {Q:Exit->Act->wD->Prop} {z:Nat} {S:wD->Prop}
theorem ao5 (i j d e:Nat) (ob:Obj) {oi oj:Oper} {n:Nat} {listed:Array Bool} {a:Act} {w:wD}
  (h: ∀b1 b2,(b1=w.heap.size/\b2=w.heap.size+1\/b1=w.heap.size+1/\b2=w.heap.size)->LaS P ops Q z S n ((listed.setIfInBounds i true).setIfInBounds j true) ((a.put (some d) (pN (some ⟨b1,0,none⟩))).put (some e) (pN (some ⟨b2,0,none⟩))) ((w.alloc ob).alloc ob))
  (hS:S (w.alloc ob)) (hS2:S ((w.alloc ob).alloc ob))
  (hoi:ops[i]? =some oi:=by rfl) (hoj:ops[j]? =some oj:=by rfl) (hri: ∀(a:Act) (w:wD),(execOp a.eval oi).run P w= .ok (.value (pN (some ⟨w.heap.size,0,none⟩))) (w.alloc ob)) (hrj: ∀(a:Act) (w:wD),(execOp a.eval oj).run P w= .ok (.value (pN (some ⟨w.heap.size,0,none⟩))) (w.alloc ob)) (hdi:oi.dst=some d:=by rfl) (hdj:oj.dst=some e:=by rfl) (hne:d≠e:=by decide) (hij:i≠j:=by decide) (hgi:oi.guard=none:=by rfl) (hgj:oj.guard=none:=by rfl)
  (hc:Region.ready .any ops listed= [i,j]:=by kernel_rfl) (hci:Region.ready .any ops (listed.setIfInBounds i true)= [j]:=by kernel_rfl) (hcj:Region.ready .any ops (listed.setIfInBounds j true)= [i]:=by kernel_rfl):LaS P ops Q z S (n+2) listed a w:=by
 have hwi: ∀y,Region.wanted oi y=true:=fun y=>by unfold Region.wanted;rw[hgi]
 have hwj: ∀y,Region.wanted oj y=true:=fun y=>by unfold Region.wanted;rw[hgj]
 refine aie i j (ah0 (hri a w) ⟨fun _=>hS,ahQ j hoj (hwj _) hci (ah0 (hrj _ _) ⟨fun _=>hS2, ?_⟩)⟩) (ah0 (hrj a w) ⟨fun _=>hS,ahQ i hoi (hwi _) hcj (ah0 (hri _ _) ⟨fun _=>hS2, ?_⟩)⟩) hoi hoj (hwi _) (hwj _) hc
 ·rw[hdi,hdj];exact h _ _ (.inl ⟨rfl,by rw[World.size_alloc]⟩)
 ·rw[hdi,hdj,Array.setIfInBounds_comm _ _ (Ne.symm hij),Act.put_comm (x:=some e) (y:=some d) a _ _ (fun k hk hk2=>hne (by cases hk;cases hk2;rfl))];exact h _ _ (.inr ⟨by rw[World.size_alloc],rfl⟩)
end
theorem aoG {n:Nat} {w u:wD} {p:Addr} {v:vL} (hb:bX n w u) (h:w.cell? p=some v) (hn:w.heap.size<=n:=by exact nR _):u.cell? p=some v:=(hb.cell (Nat.lt_of_lt_of_le (wBk w _ h) hn)).trans h
theorem apl (a b c d:Int) (w:wD):(Op.equalIn 10000 109 (.agg #[iN qi a,iN qi b]) (.agg #[iN qi c,iN qi d])).run tP w= .ok (a==c&&b==d) w:=by
 have u3:=Tryz.underlying3;have a3:=Tryz.isAgg3;have z3:=Tryz.sizeOf3;rw[show (10000 :Nat)=9999+1 from rfl,Op.equalIn];simp only[Sem.run_bind,run_underlying Tryz.underlying109,Result.andThen_ok];go_simp;by_cases h1:a=c<;>by_cases h2:b=d<;>simp[h1,h2]
theorem ao6 {w:wD} {t:TypeId} {z0 z1 z2:vL} {b1 b2:Nat} (hb:b1=w.heap.size/\b2=w.heap.size+1\/b1=w.heap.size+1/\b2=w.heap.size):
  let u:=(w.alloc (cL #[z0,z1,z2] t)).alloc (cL #[z0,z1,z2] t)
  (b1≠b2/\w.heap.size<=b1/\w.heap.size<=b2)/\((u.cell? ⟨b1,0,none⟩=some z0/\u.cell? ⟨b1,1,none⟩=some z1/\u.cell? ⟨b1,2,none⟩=some z2)/\u.cell? ⟨b2,0,none⟩=some z0/\u.cell? ⟨b2,1,none⟩=some z1/\u.cell? ⟨b2,2,none⟩=some z2)/\
  ((u.frozen? ⟨b1,0,none⟩=false/\u.frozen? ⟨b1,1,none⟩=false/\u.frozen? ⟨b1,2,none⟩=false)/\u.frozen? ⟨b2,0,none⟩=false/\u.frozen? ⟨b2,1,none⟩=false/\u.frozen? ⟨b2,2,none⟩=false)/\bX w.heap.size w u:=by
 intro u;have hu:bX w.heap.size w u:=((Below.refl _ _).alloc (nR _) _).alloc (by simp) _
 rcases hb with ⟨rfl,rfl⟩ |⟨rfl,rfl⟩
 all_goals
  refine⟨⟨by omega,by omega,by omega⟩,⟨⟨?_, ?_, ?_⟩, ?_, ?_, ?_⟩,⟨⟨?_, ?_, ?_⟩, ?_, ?_, ?_⟩,hu⟩
  all_goals
   simp only[u];go_simp
theorem ao7 {w u:wD} {z0 z1 z2 x0 x1 x2 y0 y1 y2:vL} {b1 b2 n:Nat} (hn:b1≠b2/\n<=b1/\n<=b2) (hc:(u.cell? ⟨b1,0,none⟩=some z0/\u.cell? ⟨b1,1,none⟩=some z1/\u.cell? ⟨b1,2,none⟩=some z2)/\u.cell? ⟨b2,0,none⟩=some z0/\u.cell? ⟨b2,1,none⟩=some z1/\u.cell? ⟨b2,2,none⟩=some z2) (hb:bX n w u):
  let v:=(((((u.setCell ⟨b1,0,none⟩ x0).setCell ⟨b1,1,none⟩ x1).setCell ⟨b1,2,none⟩ x2).setCell ⟨b2,0,none⟩ y0).setCell ⟨b2,1,none⟩ y1).setCell ⟨b2,2,none⟩ y2
  ((v.cell? ⟨b1,0,none⟩=some x0/\v.cell? ⟨b1,1,none⟩=some x1/\v.cell? ⟨b1,2,none⟩=some x2)/\v.cell? ⟨b2,0,none⟩=some y0/\v.cell? ⟨b2,1,none⟩=some y1/\v.cell? ⟨b2,2,none⟩=some y2)/\bX n w v:=by
 intro v;obtain⟨hne,h1,h2⟩:=hn;obtain⟨⟨c0,c1,c2⟩,d0,d1,d2⟩:=hc;have hne':=Ne.symm hne;refine⟨⟨⟨?_, ?_, ?_⟩, ?_, ?_, ?_⟩,(((((hb.setCell (p:=⟨b1,0,none⟩) h1 _).setCell (p:=⟨b1,1,none⟩) h1 _).setCell (p:=⟨b1,2,none⟩) h1 _).setCell (p:=⟨b2,0,none⟩) h2 _).setCell (p:=⟨b2,1,none⟩) h2 _).setCell (p:=⟨b2,2,none⟩) h2 _⟩
 all_goals
  simp only[v];go_simp
theorem r25 (V1 V2:BkV) (B:Bk) (w:wD) (hs:aB w V1 B) (hs2:aB w V2 B):
  Calls tP 25 #[V1.val B,V2.val B] w fun e w'=>e= .returned (.bool true)/\bX w.heap.size w w':=by
 obtain⟨ta,la,pa,tc,lc,pc⟩:=V1;obtain⟨ta2,la2,pa2,tc2,lc2,pc2⟩:=V2;have hb0:bX w.heap.size w ((w.alloc (cL #[iN qi B.hours,sL ta B.towns.length tc,sL la B.links.length lc,sL pa B.pairs.length pc] 26)).alloc (cL #[iN qi B.hours,sL ta2 B.towns.length tc2,sL la2 B.links.length lc2,sL pa2 B.pairs.length pc2] 26)):=((Below.refl _ _).alloc (nR _) _).alloc (by simp) _;have HC69:=lH (r69 B.towns ta ta2 tc tc2 _ (hs.towns.below hb0 (nR _)) (hs2.towns.below hb0 (nR _)) hs.nt);have Hs:=lH hs;have Hs2:=lH hs2;have HB0:=lH hb0;have HT:=lH (GN w (cL #[iN qi B.hours,sL ta B.towns.length tc,sL la B.links.length lc,sL pa B.pairs.length pc] 26) (cL #[iN qi B.hours,sL ta2 B.towns.length tc2,sL la2 B.links.length lc2,sL pa2 B.pairs.length pc2] 26));have hnl:=hs.nl;have hnp:=hs.np;clear hs hs2 hb0;go_enter Tryz.func25,Tryz.ntmps25
 go_wp2_with fail
 refine HC69.out.mono ?_;rintro e W ⟨rfl,hb1⟩;have HP:=lH ((row4 HT.out.1).below hb1 (by simp;omega));have HQ:=lH ((row4 HT.out.2).below hb1 (by simp));have HBW:=lH (HB0.out.trans (hb1.mono (by simp;omega)));have HC:Hid (∀u,bX W.heap.size W u->(u.cell? ⟨w.heap.size,2,none⟩=some (sL la B.links.length lc)/\u.cell? ⟨w.heap.size,3,none⟩=some (sL pa B.pairs.length pc))/\u.cell? ⟨w.heap.size+1,2,none⟩=some (sL la2 B.links.length lc2)/\u.cell? ⟨w.heap.size+1,3,none⟩=some (sL pa2 B.pairs.length pc2)):=lH fun u hu=>⟨⟨aoG hu HP.out.c2,aoG hu HP.out.c3⟩,aoG hu HQ.out.c2,aoG hu HQ.out.c3⟩;clear hb1 HC69 HB0 HT;obtain⟨_,p0,p1,p2,p3,_,_,_,_⟩:=HP.out;obtain⟨_,q0,q1,q2,q3,_,_,_,_⟩:=HQ.out
 go_wp2_with fail
 clear p0 p1 p2 p3 q0 q1 q2 q3
 go_loopw [5] (fun i wr=> ∃k:Nat,k<=B.links.length/\i= iN qi (k:Int)/\bX W.heap.size W wr) (fun i _=>B.links.length-(intOf i).toNat)
 case atStart=>exact⟨0,Nat.zero_le _,rfl,Below.refl _ _⟩
 case round=>
  obtain⟨k,hk,rfl,hb⟩:=hrel;have Hb:=lH hb;clear hb;obtain⟨⟨p2,p3⟩,q2,q3⟩:=HC.out _ Hb.out;obtain⟨wA,hwA⟩: ∃wA,wA=wr:=⟨wr,rfl⟩;subst hwA;by_cases hlt:k<B.links.length
  ·have hlt2:(k:Int)<(B.links.length:Int):=by omega
   obtain⟨b,o,sa,sc,hla,c0,c1,c2,hsl,hsn⟩:=Hs.out.links k _ (lG hlt);obtain⟨b',o',sa',sc',hla',d0,d1,d2,hsl',_⟩:=Hs2.out.links k _ (lG hlt);simp only at hla hla';subst hla hla';have HC6:Hid (∀u,bX W.heap.size W u->(u.cell? ⟨b,o+k*3,none⟩=some (iN qi B.links[k].one)/\u.cell? ⟨b,o+k*3+1,none⟩=some (iN qi B.links[k].two)/\u.cell? ⟨b,o+k*3+2,none⟩=some (sL sa B.links[k].steps.length sc))/\u.cell? ⟨b',o'+k*3,none⟩=some (iN qi B.links[k].one)/\u.cell? ⟨b',o'+k*3+1,none⟩=some (iN qi B.links[k].two)/\u.cell? ⟨b',o'+k*3+2,none⟩=some (sL sa' B.links[k].steps.length sc')):=lH fun u hu=>by
    have h:=HBW.out.trans (hu.mono HBW.out.size);exact⟨⟨aoG h c0,aoG h c1,aoG h c2⟩,aoG h d0,aoG h d1,aoG h d2⟩
   have HSl:=lH (And.intro hsl hsl');generalize B.links[k].one=one at *;generalize B.links[k].two=two at *;generalize B.links[k].steps=st at *;clear c0 c1 c2 d0 d1 d2 hsl hsl';have hW:bX W.heap.size W wA.drew:=Hb.out.drew
   go_wp2_with fail
   clear p2 p3 q2 q3;refine aif 14 14 (fun u=>bX W.heap.size W u) (by kernel_rfl) ?_;refine ahN 0 (pN (some ⟨w.heap.size,2,none⟩)) hW ?_ (hr:=fun u hu=>by go_simp);refine ahN 1 (sL (some ⟨b,o,none⟩) B.links.length lc) hW ?_ (hr:=fun u hu=>by obtain⟨⟨p2,p3⟩,q2,q3⟩:=HC.out _ hu;go_simp);refine ahN 2 (iN qi (k:Int)) hW ?_ (hr:=fun u hu=>by go_simp);refine ahN 3 (pN (some ⟨b,o+k*3,none⟩)) hW ?_ (hr:=fun u hu=>by go_simp);refine ahN 4 (.agg #[iN qi one,iN qi two,sL sa st.length sc]) hW ?_ (hr:=fun u hu=>by obtain⟨⟨e0,e1,e2⟩,f0,f1,f2⟩:=HC6.out _ hu;go_simp);refine ahN 5 (pN (some ⟨w.heap.size+1,2,none⟩)) hW ?_ (hr:=fun u hu=>by go_simp);refine ahN 6 (sL (some ⟨b',o',none⟩) B.links.length lc2) hW ?_ (hr:=fun u hu=>by obtain⟨⟨p2,p3⟩,q2,q3⟩:=HC.out _ hu;go_simp);refine ahN 7 (iN qi (k:Int)) hW ?_ (hr:=fun u hu=>by go_simp);refine ahN 8 (pN (some ⟨b',o'+k*3,none⟩)) hW ?_ (hr:=fun u hu=>by go_simp);refine ahN 9 (.agg #[iN qi one,iN qi two,sL sa' st.length sc']) hW ?_ (hr:=fun u hu=>by obtain⟨⟨e0,e1,e2⟩,f0,f1,f2⟩:=HC6.out _ hu;go_simp);refine ao5 10 11 6 7 (cL #[iN qi 0,iN qi 0,sL none 0 0] 53) (fun b1 b2 hbb=> ?_) (hW.alloc hW.size _) ((hW.alloc hW.size _).alloc (by rw[World.size_alloc];have:=hW.size;omega) _) (hri:=fun a u=>by go_simp) (hrj:=fun a u=>by go_simp);obtain⟨hn,hc,hf,hu⟩:=ao6 (w:=wA.drew) (t:=53) (z0:= iN qi 0) (z1:= iN qi 0) (z2:= sL none 0 0) hbb;have hWu:=hW.trans (hu.mono hW.size);generalize (wA.drew.alloc (cL #[iN qi 0,iN qi 0,sL none 0 0] 53)).alloc (cL #[iN qi 0,iN qi 0,sL none 0 0] 53)=u0 at *;have hS:=ao7 (n:=W.heap.size) (x0:= iN qi one) (x1:= iN qi two) (x2:= sL sa st.length sc) (y0:= iN qi one) (y1:= iN qi two) (y2:= sL sa' st.length sc') ⟨hn.1,Nat.le_trans hW.size hn.2.1,Nat.le_trans hW.size hn.2.2⟩ hc hWu;obtain⟨hne,hn1,hn2⟩:=hn;have hne':=Ne.symm hne;obtain⟨⟨c0,c1,c2⟩,d0,d1,d2⟩:=hc;obtain⟨⟨g0,g1,g2⟩,k0,k1,k2⟩:=hf;refine ahQ 12 (h:=ah1 (w':=((u0.setCell ⟨b1,0,none⟩ (iN qi one)).setCell ⟨b1,1,none⟩ (iN qi two)).setCell ⟨b1,2,none⟩ (sL sa st.length sc)) (by go_simp) ⟨fun _=> ?_, ?_⟩)
   ·exact((hWu.setCell (p:=⟨b1,0,none⟩) (Nat.le_trans hW.size hn1) _).setCell (p:=⟨b1,1,none⟩) (Nat.le_trans hW.size hn1) _).setCell (p:=⟨b1,2,none⟩) (Nat.le_trans hW.size hn1) _
   refine ahQ 13 (h:=ah1 (w':=(((((u0.setCell ⟨b1,0,none⟩ (iN qi one)).setCell ⟨b1,1,none⟩ (iN qi two)).setCell ⟨b1,2,none⟩ (sL sa st.length sc)).setCell ⟨b2,0,none⟩ (iN qi one)).setCell ⟨b2,1,none⟩ (iN qi two)).setCell ⟨b2,2,none⟩ (sL sa' st.length sc')) (by go_simp) ⟨fun _=>hS.2, ?_⟩);clear c0 c1 c2 d0 d1 d2 g0 g1 g2 k0 k1 k2;generalize ((((((u0.setCell ⟨b1,0,none⟩ (iN qi one)).setCell ⟨b1,1,none⟩ (iN qi two)).setCell ⟨b1,2,none⟩ (sL sa st.length sc)).setCell ⟨b2,0,none⟩ (iN qi one)).setCell ⟨b2,1,none⟩ (iN qi two)).setCell ⟨b2,2,none⟩ (sL sa' st.length sc'))=u1 at *;refine ahZ ?_;simp only[Act.put];obtain⟨⟨⟨c0,c1,c2⟩,d0,d1,d2⟩,hWn⟩:=hS;have hwn:(one != one)=false:=by simp
   have hwt:(two != two)=false:=by simp
   have hsn2:(st.length:Int)<=1000000:=by omega
   have HWn:=lH hWn;have HSx:Hid (∀m (hm:m<st.length),∃x1 x2:Int,(∃q r,sa=some ⟨q,r,none⟩/\u1.cell? ⟨q,r+m*2,none⟩=some (iN qi x1)/\u1.cell? ⟨q,r+m*2+1,none⟩=some (iN qi x2))/\ ∃q r,sa'=some ⟨q,r,none⟩/\u1.cell? ⟨q,r+m*2,none⟩=some (iN qi x1)/\u1.cell? ⟨q,r+m*2+1,none⟩=some (iN qi x2)):=lH fun m hm=>by
    have hbu:=HBW.out.trans (hWn.mono HBW.out.size);obtain⟨q,r,e1,e2,e3⟩:=HSl.out.1 m _ (lG hm);obtain⟨q',r',e4,e5,e6⟩:=HSl.out.2 m _ (lG hm);exact⟨_,_,⟨q,r,e1,aoG hbu e2,aoG hbu e3⟩,q',r',e4,aoG hbu e5,aoG hbu e6⟩
   clear hWn hW hWu hu hbb hn1 hn2
   go_wp2_with fail
   go_loopw [8] (fun j wr=> ∃m:Nat,m<=st.length/\j= iN qi (m:Int)/\ ∃n,wr=u1.drewN n) (fun j _=>st.length-(intOf j).toNat)
   case atStart=>exact⟨0,Nat.zero_le _,rfl,0,rfl⟩
   case round=>
    obtain⟨m,hm,rfl,n,rfl⟩:=hrel;by_cases hml:m<st.length
    ·obtain⟨x1,x2,⟨q,r,rfl,e1,e2⟩,q',r',rfl,e3,e4⟩:=HSx.out m hml;have hml2:(m:Int)<(st.length:Int):=by omega
     have hq:=apl x1 x2 x1 x2;have hq2:(x1==x1&&x2==x2)=true:=by simp
     go_wp2_with fail
     go_quiet (fail)
     go_wp2;exact⟨⟨m+1,by omega,rfl,n+nq,rfl⟩,by simp[intOf];omega⟩
    ·have hml2: ¬(m:Int)<(st.length:Int):=by omega
     go_wp2;go_roundw
     case rel=>exact⟨k+1,by omega,by go_num,aV HWn.out _⟩
     case measure=>simp[intOf];omega
  ·have hlt2: ¬(k:Int)<(B.links.length:Int):=by omega
   go_wp2_with fail
   clear p2 p3 q2 q3
   go_loopw [9] (fun i wr=> ∃k:Nat,k<=B.pairs.length/\i= iN qi (k:Int)/\bX W.heap.size W wr) (fun i _=>B.pairs.length-(intOf i).toNat)
   case atStart=>exact⟨0,Nat.zero_le _,rfl,Hb.out⟩
   case round=>
    obtain⟨k,hk,rfl,hb⟩:=hrel;have Hb2:=lH hb;clear hb;obtain⟨⟨p2,p3⟩,q2,q3⟩:=HC.out _ Hb2.out;obtain⟨wB,hwB⟩: ∃wB,wB=wr:=⟨wr,rfl⟩;subst hwB;by_cases hlt:k<B.pairs.length
    ·have hlt2:(k:Int)<(B.pairs.length:Int):=by omega
     obtain⟨b,o,sa,sc,hpa,c0,c1,c2,hsl,hsn⟩:=Hs.out.pairs k _ (lG hlt);obtain⟨b',o',sa',sc',hpa',d0,d1,d2,hsl',_⟩:=Hs2.out.pairs k _ (lG hlt);simp only at hpa hpa';subst hpa hpa';have HC6:Hid (∀u,bX W.heap.size W u->(u.cell? ⟨b,o+k*3,none⟩=some (iN qi B.pairs[k].one)/\u.cell? ⟨b,o+k*3+1,none⟩=some (iN qi B.pairs[k].two)/\u.cell? ⟨b,o+k*3+2,none⟩=some (sL sa B.pairs[k].calls.length sc))/\u.cell? ⟨b',o'+k*3,none⟩=some (iN qi B.pairs[k].one)/\u.cell? ⟨b',o'+k*3+1,none⟩=some (iN qi B.pairs[k].two)/\u.cell? ⟨b',o'+k*3+2,none⟩=some (sL sa' B.pairs[k].calls.length sc')):=lH fun u hu=>by
      have h:=HBW.out.trans (hu.mono HBW.out.size);exact⟨⟨aoG h c0,aoG h c1,aoG h c2⟩,aoG h d0,aoG h d1,aoG h d2⟩
     have HSl:=lH (And.intro hsl hsl');generalize B.pairs[k].one=one at *;generalize B.pairs[k].two=two at *;generalize B.pairs[k].calls=st at *;clear c0 c1 c2 d0 d1 d2 hsl hsl';have hW:bX W.heap.size W wB.drew:=Hb2.out.drew
     go_wp2_with fail
     clear p2 p3 q2 q3;refine aif 14 14 (fun u=>bX W.heap.size W u) (by kernel_rfl) ?_;refine ahN 0 (pN (some ⟨w.heap.size,3,none⟩)) hW ?_ (hr:=fun u hu=>by go_simp);refine ahN 1 (sL (some ⟨b,o,none⟩) B.pairs.length pc) hW ?_ (hr:=fun u hu=>by obtain⟨⟨p2,p3⟩,q2,q3⟩:=HC.out _ hu;go_simp);refine ahN 2 (iN qi (k:Int)) hW ?_ (hr:=fun u hu=>by go_simp);refine ahN 3 (pN (some ⟨b,o+k*3,none⟩)) hW ?_ (hr:=fun u hu=>by go_simp);refine ahN 4 (.agg #[iN qi one,iN qi two,sL sa st.length sc]) hW ?_ (hr:=fun u hu=>by obtain⟨⟨e0,e1,e2⟩,f0,f1,f2⟩:=HC6.out _ hu;go_simp);refine ahN 5 (pN (some ⟨w.heap.size+1,3,none⟩)) hW ?_ (hr:=fun u hu=>by go_simp);refine ahN 6 (sL (some ⟨b',o',none⟩) B.pairs.length pc2) hW ?_ (hr:=fun u hu=>by obtain⟨⟨p2,p3⟩,q2,q3⟩:=HC.out _ hu;go_simp);refine ahN 7 (iN qi (k:Int)) hW ?_ (hr:=fun u hu=>by go_simp);refine ahN 8 (pN (some ⟨b',o'+k*3,none⟩)) hW ?_ (hr:=fun u hu=>by go_simp);refine ahN 9 (.agg #[iN qi one,iN qi two,sL sa' st.length sc']) hW ?_ (hr:=fun u hu=>by obtain⟨⟨e0,e1,e2⟩,f0,f1,f2⟩:=HC6.out _ hu;go_simp);refine ao5 10 11 10 11 (cL #[iN qi 0,iN qi 0,sL none 0 0] 56) (fun b1 b2 hbb=> ?_) (hW.alloc hW.size _) ((hW.alloc hW.size _).alloc (by rw[World.size_alloc];have:=hW.size;omega) _) (hri:=fun a u=>by go_simp) (hrj:=fun a u=>by go_simp);obtain⟨hn,hc,hf,hu⟩:=ao6 (w:=wB.drew) (t:=56) (z0:= iN qi 0) (z1:= iN qi 0) (z2:= sL none 0 0) hbb;have hWu:=hW.trans (hu.mono hW.size);generalize (wB.drew.alloc (cL #[iN qi 0,iN qi 0,sL none 0 0] 56)).alloc (cL #[iN qi 0,iN qi 0,sL none 0 0] 56)=u0 at *;have hS:=ao7 (n:=W.heap.size) (x0:= iN qi one) (x1:= iN qi two) (x2:= sL sa st.length sc) (y0:= iN qi one) (y1:= iN qi two) (y2:= sL sa' st.length sc') ⟨hn.1,Nat.le_trans hW.size hn.2.1,Nat.le_trans hW.size hn.2.2⟩ hc hWu;obtain⟨hne,hn1,hn2⟩:=hn;have hne':=Ne.symm hne;obtain⟨⟨c0,c1,c2⟩,d0,d1,d2⟩:=hc;obtain⟨⟨g0,g1,g2⟩,k0,k1,k2⟩:=hf;refine ahQ 12 (h:=ah1 (w':=((u0.setCell ⟨b1,0,none⟩ (iN qi one)).setCell ⟨b1,1,none⟩ (iN qi two)).setCell ⟨b1,2,none⟩ (sL sa st.length sc)) (by go_simp) ⟨fun _=> ?_, ?_⟩)
     ·exact((hWu.setCell (p:=⟨b1,0,none⟩) (Nat.le_trans hW.size hn1) _).setCell (p:=⟨b1,1,none⟩) (Nat.le_trans hW.size hn1) _).setCell (p:=⟨b1,2,none⟩) (Nat.le_trans hW.size hn1) _
     refine ahQ 13 (h:=ah1 (w':=(((((u0.setCell ⟨b1,0,none⟩ (iN qi one)).setCell ⟨b1,1,none⟩ (iN qi two)).setCell ⟨b1,2,none⟩ (sL sa st.length sc)).setCell ⟨b2,0,none⟩ (iN qi one)).setCell ⟨b2,1,none⟩ (iN qi two)).setCell ⟨b2,2,none⟩ (sL sa' st.length sc')) (by go_simp) ⟨fun _=>hS.2, ?_⟩);clear c0 c1 c2 d0 d1 d2 g0 g1 g2 k0 k1 k2;generalize ((((((u0.setCell ⟨b1,0,none⟩ (iN qi one)).setCell ⟨b1,1,none⟩ (iN qi two)).setCell ⟨b1,2,none⟩ (sL sa st.length sc)).setCell ⟨b2,0,none⟩ (iN qi one)).setCell ⟨b2,1,none⟩ (iN qi two)).setCell ⟨b2,2,none⟩ (sL sa' st.length sc'))=u1 at *;refine ahZ ?_;simp only[Act.put];obtain⟨⟨⟨c0,c1,c2⟩,d0,d1,d2⟩,hWn⟩:=hS;have hwn:(one != one)=false:=by simp
     have hwt:(two != two)=false:=by simp
     have HWn:=lH hWn;have HCL:=lH (c18 st st sa sa' sc sc' u1 (by
      have hbu:=HBW.out.trans (hWn.mono HBW.out.size);exact HSl.out.1.below hbu (nR _)) (by
      have hbu:=HBW.out.trans (hWn.mono HBW.out.size);exact HSl.out.2.below hbu (nR _)) hsn hsn)
     have hdec:decide (st=st)=true:=by simp
     rw[hdec] at HCL;clear hWn hW hWu hu hbb hn1 hn2 hdec
     go_wp2_with fail
     refine HCL.out.mono ?_;rintro e w9 ⟨rfl,hb9⟩;have HB9:=lH (HWn.out.trans (hb9.mono HWn.out.size));clear hb9;go_wp2;go_roundw
     case rel=>exact⟨k+1,by omega,by go_num,HB9.out⟩
     case measure=>simp[intOf];omega
    ·have hlt3: ¬(k:Int)<(B.pairs.length:Int):=by omega
     go_wp2;go_ret;exact⟨rfl,HBW.out.trans (Hb2.out.mono HBW.out.size)⟩
theorem aij {w:wD} {n:Nat} {a b c d:vL} (c0:w.cell? ⟨n,0,none⟩=some a) (c1:w.cell? ⟨n,1,none⟩=some b) (c2:w.cell? ⟨n,2,none⟩=some c) (c3:w.cell? ⟨n,3,none⟩=some d)
  (f0:w.frozen? ⟨n,0,none⟩=false) (f1:w.frozen? ⟨n,1,none⟩=false) (f2:w.frozen? ⟨n,2,none⟩=false) (f3:w.frozen? ⟨n,3,none⟩=false):dW w n a b c d:=⟨wBk w _ c0,c0,c1,c2,c3,f0,f1,f2,f3⟩
theorem aiK {w:wD} {b:Nat} {a0 a1 a2 a3:vL} (h:dW w b a0 a1 a2 a3) (x0 x1 x2 x3:vL):dW ((((w.setCell ⟨b,0,none⟩ x0).setCell ⟨b,1,none⟩ x1).setCell ⟨b,2,none⟩ x2).setCell ⟨b,3,none⟩ x3) b x0 x1 x2 x3:=by
 obtain⟨hz,c0,c1,c2,c3,f0,f1,f2,f3⟩:=h;refine aij ?_ ?_ ?_ ?_ ?_ ?_ ?_ ?_<;>go_simp
theorem ahT (w:wD) (t:TypeId) (a0 a1 a2 a3:vL):dW (w.alloc (cL #[a0,a1,a2,a3] t)) w.heap.size a0 a1 a2 a3:=⟨by simp,by go_simp,by go_simp,by go_simp,by go_simp,by go_simp,by go_simp,by go_simp,by go_simp⟩
theorem aik {n m b:Nat} {w w':wD} (h:bX n w w') (hb:n<=b) (hm:m=n) (x0 x1 x2 x3:vL):bX m w ((((w'.setCell ⟨b,0,none⟩ x0).setCell ⟨b,1,none⟩ x1).setCell ⟨b,2,none⟩ x2).setCell ⟨b,3,none⟩ x3):=by
 subst hm;exact(((h.setCell (p:=⟨b,0,none⟩) hb _).setCell (p:=⟨b,1,none⟩) hb _).setCell (p:=⟨b,2,none⟩) hb _).setCell (p:=⟨b,3,none⟩) hb _
abbrev ahS:=Int×Int×List (Int×Int)
def pr3 (p:Pr):ahS:=(p.one,p.two,p.calls)
structure RwV (w:wD) (l:List ahS) (vs:List (Int×Int×vL)):Prop where
 len:vs.length=l.length
 get: ∀(i:Nat) (x:ahS),l[i]? =some x-> ∃sa sc,vs[i]? =some (x.1,x.2.1,sL sa x.2.2.length sc)/\SlB w sa x.2.2/\x.2.2.length<=1000000
section
variable {w w':wD} {l l':List ahS} {vs vs':List (Int×Int×vL)}
theorem RwV.nil:RwV w [] []:=⟨rfl,fun i x h=>by cases h⟩
theorem RwV.below (h:RwV w l vs) {n:Nat} (hb:bX n w w') (hn:w.heap.size<=n):RwV w' l vs:=⟨h.len,fun i x hx=>by
 obtain⟨sa,sc,h1,h2,h3⟩:=h.get i x hx;exact⟨sa,sc,h1,h2.below hb hn,h3⟩⟩
theorem RwV.append (h:RwV w l vs) (h':RwV w l' vs'):RwV w (l++l') (vs++vs'):=⟨by rw[List.length_append,List.length_append,h.len,h'.len],fun i x hx=>by
 by_cases c:i<l.length
 ·rw[List.getElem?_append_left c] at hx;obtain⟨sa,sc,h1,h2,h3⟩:=h.get i x hx;exact⟨sa,sc,by rw[List.getElem?_append_left (by rw[h.len];exact c)];exact h1,h2,h3⟩
 ·rw[List.getElem?_append_right (by omega)] at hx;obtain⟨sa,sc,h1,h2,h3⟩:=h'.get _ x hx;exact⟨sa,sc,by rw[List.getElem?_append_right (by rw[h.len];omega),h.len];exact h1,h2,h3⟩⟩
theorem RwV.take (h:RwV w l vs) (k:Nat):RwV w (l.take k) (vs.take k):=⟨by rw[List.length_take,List.length_take,h.len],fun i x hx=>by
 rw[List.getElem?_take] at hx
 split at hx
 ·rename_i c;obtain⟨sa,sc,h1,h2,h3⟩:=h.get i x hx;exact⟨sa,sc,by rw[List.getElem?_take,if_pos c];exact h1,h2,h3⟩
 ·cases hx⟩
theorem RwV.drop (h:RwV w l vs) (k:Nat):RwV w (l.drop k) (vs.drop k):=⟨by rw[List.length_drop,List.length_drop,h.len],fun i x hx=>by
 rw[List.getElem?_drop] at hx;obtain⟨sa,sc,h1,h2,h3⟩:=h.get _ x hx;exact⟨sa,sc,by rw[List.getElem?_drop];exact h1,h2,h3⟩⟩
theorem RwV.one (h:RwV w l vs): ∀u∈tri vs,u.oneCell'=true:=EY _ fun x hx=>by
 obtain⟨i,hi,rfl⟩:=List.getElem_of_mem hx;obtain⟨sa,sc,h1,_,_⟩:=h.get i _ (lG (by rw[<-h.len];exact hi));rw[lG hi] at h1;rw[Option.some.inj h1];rfl
theorem ah2: ∀(a b:List (Int×Int×vL)),tri (a++b)=tri a++tri b
 | [],_=>rfl
 |x::a,b=>by simp[tri,ah2 a b]
theorem aiL (k:Nat): ∀(a:List (Int×Int×vL)),k<=a.length-> ∀j,(tri (a.drop k))[j]? =(tri a)[k*3+j]? :=by
 intro a hk j;have:tri a=tri (a.take k)++tri (a.drop k):=by rw[<-ah2,List.take_append_drop]
 rw[this,List.getElem?_append_right (by rw[ES,List.length_take];omega),ES,List.length_take]
 congr 1
 omega
theorem aiM (k:Nat) (a:List (Int×Int×vL)) {j:Nat} {u:vL} (h:(tri (a.take k))[j]? =some u):(tri a)[j]? =some u:=by
 have:tri a=tri (a.take k)++tri (a.drop k):=by rw[<-ah2,List.take_append_drop]
 rw[this,List.getElem?_append_left (lS.1 h).1];exact h
end
def ahP (w:wD) (b o:Nat) (vs:List (Int×Int×vL)):Prop:= ∀(j:Nat) (u:vL),(tri vs)[j]? =some u->w.cell? ((⟨b,o,none⟩:Addr).add j)=some u
theorem ahP.below {w w':wD} {b o n:Nat} {vs:List (Int×Int×vL)} (h:ahP w b o vs) (hb:bX n w w') (hn:w.heap.size<=n):ahP w' b o vs:=fun j u hu=>by
 have:=h j u hu;rw[BH] at this ⊢;exact aoF hb this hn
theorem ahP.take {w:wD} {b o:Nat} {vs:List (Int×Int×vL)} (h:ahP w b o vs) (k:Nat):ahP w b o (vs.take k):=fun j u hu=>h j u (aiM k vs hu)
theorem ahP.drop {w:wD} {b o:Nat} {vs:List (Int×Int×vL)} (h:ahP w b o vs) {k:Nat} (hk:k<=vs.length):ahP w b (o+k*3) (vs.drop k):=fun j u hu=>by
 rw[aiL k vs hk] at hu;have:=h _ u hu;rw[BH] at this ⊢;rwa [Nat.add_assoc]
theorem aiN {w:wD} {b o:Nat} {l:List ahS} (h: ∀(i:Nat) (x:ahS),l[i]? =some x-> ∃sa sc,w.cell? ⟨b,o+i*3,none⟩=some (iN qi x.1)/\w.cell? ⟨b,o+i*3+1,none⟩=some (iN qi x.2.1)/\w.cell? ⟨b,o+i*3+2,none⟩=some (sL sa x.2.2.length sc)/\SlB w sa x.2.2/\x.2.2.length<=1000000):
  ∃vs,RwV w l vs/\ahP w b o vs:=by
 have hv: ∀i,i<l.length->((List.range l.length).map fun i=>((((l[i]?).map (·.1)).getD 0,((l[i]?).map (·.2.1)).getD 0,(w.cell? ⟨b,o+i*3+2,none⟩).getD undef):Int×Int×vL))[i]? =some (((l[i]?).map (·.1)).getD 0,((l[i]?).map (·.2.1)).getD 0,(w.cell? ⟨b,o+i*3+2,none⟩).getD undef):=fun i hi=>by
  rw[List.getElem?_map,List.getElem?_range hi];rfl
 refine⟨(List.range l.length).map fun i=>(((l[i]?).map (·.1)).getD 0,((l[i]?).map (·.2.1)).getD 0,(w.cell? ⟨b,o+i*3+2,none⟩).getD undef),⟨by simp,fun i x hx=> ?_⟩,fun j u hu=> ?_⟩
 ·obtain⟨sa,sc,_,_,h3,h4,h5⟩:=h i x hx;refine⟨sa,sc, ?_,h4,h5⟩;rw[hv i (lS.1 hx).1,hx,h3];rfl
 ·obtain⟨i,y,hy,hh⟩:=EU _ j u hu;have hi:i<l.length:=by have:=(lS.1 hy).1;simpa using this
  rw[hv i hi] at hy
  cases hy
  obtain⟨sa,sc,h1,h2,h3,_⟩:=h i _ (lG hi);rw[lG hi] at hh;simp only[Option.map_some,Option.getD_some,h3] at hh;rw[BH]
  rcases hh with ⟨rfl,rfl⟩ |⟨rfl,rfl⟩ |⟨rfl,rfl⟩
  ·exact h1
  ·rw[<-Nat.add_assoc];exact h2
  ·rw[<-Nat.add_assoc];exact h3
theorem ajN {w:wD} {b o:Nat} {ls:List Pr} (h:jv w (some ⟨b,o,none⟩) ls): ∃vs,RwV w (ls.map pr3) vs/\ahP w b o vs:=aiN fun i x hx=>by
 rw[List.getElem?_map,Option.map_eq_some_iff] at hx;obtain⟨L,hL,rfl⟩:=hx;obtain⟨b2,o2,sa,sc,e,h1,h2,h3,h4,h5⟩:=h i L hL
 cases e
 exact⟨sa,sc,h1,h2,h3,h4,h5⟩
theorem aiO {w:wD} {b o i:Nat} {l:List ahS} {vs:List (Int×Int×vL)} {x:ahS} (hr:RwV w l vs) (ht:ahP w b o vs) (hx:l[i]? =some x): ∃sa sc,w.cell? ⟨b,o+i*3,none⟩=some (iN qi x.1)/\w.cell? ⟨b,o+i*3+1,none⟩=some (iN qi x.2.1)/\w.cell? ⟨b,o+i*3+2,none⟩=some (sL sa x.2.2.length sc)/\SlB w sa x.2.2/\x.2.2.length<=1000000:=by
 obtain⟨sa,sc,h1,h2,h3⟩:=hr.get i x hx;obtain⟨g0,g1,g2⟩:=ET vs i _ h1;have k0:=ht _ _ g0;have k1:=ht _ _ g1;have k2:=ht _ _ g2;rw[BH] at k0 k1 k2;exact⟨sa,sc,k0,by rw[Nat.add_assoc];exact k1,by rw[Nat.add_assoc];exact k2,h2,h3⟩
theorem aio {w:wD} {g:Nat} {vs:List (Int×Int×vL)} (h: ∀(j:Nat) (u:vL),(tri vs)[j]? =some u->w.cell? ⟨g,j,none⟩=some u):ahP w g 0 vs:=fun j u hu=>by
 rw[BH,Nat.zero_add];exact h j u hu
theorem aip (w:wD) (n:Nat) (e:TypeId) (s:Nat) (hn:n<=w.heap.size):(w.alloc (cL #[] e)).ownsRow n e s (sL (some ⟨w.heap.size,0,none⟩) 0 0) 0 []:=
 ⟨by simp,.inr ⟨w.heap.size,0,#[],rfl,hn,(MapKept.heap_alloc w _).1,nR _,Nat.zero_le _,by simp,by simp⟩⟩
end Go.Proofs.YtaikibfkggglgaaGreatDoor
