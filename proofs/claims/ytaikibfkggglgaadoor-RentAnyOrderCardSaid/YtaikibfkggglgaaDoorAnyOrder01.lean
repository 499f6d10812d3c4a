/- A part of the proof of a law; no conditions of its own. -/
import Derived.OrdersHeld
import Derived.Laws.AppendOwn
import Derived.Test.YtaikibfkggglgaaDoorW27
set_option maxRecDepth 100000
open Nat renaming le_refl→nR
open List renaming getElem?_eq_getElem→lG
open Array renaming getElem?_eq_some_iff→aS
open List renaming getElem?_eq_some_iff→lS
open List renaming getD_eq_getElem?_getD→lD
set_option maxHeartbeats 4000000
namespace Go.Proofs.YtaikibfkggglgaaDoor
open Go.RowKit Go.Tp
section
variable {P:Program} {ops:Array Oper} {Q:Exit->Act->World->Prop} {z:Nat} {S:World->Prop}
def aji (ops:Array Oper):Nat->Nat->Nat->Bool
 | 0,_,_=>false
 |f+1,j,i=>((ops[j]?).map fun o=>o.after.any fun e=>Region.binds .any e&&(e.on==i||aji ops f e.on i)).getD false
def Shut (ops:Array Oper) (listed:Array Bool):Prop:= ∀(j:Nat) (o:Oper),ops[j]? =some o->listed.getD j false=true-> ∀e∈o.after,Region.binds .any e=true->listed.getD e.on false=true
def ajj (ops:Array Oper) (listed:Array Bool):Bool:=(List.range ops.size).all fun j=> !listed.getD j false||((ops[j]?).map fun o=>o.after.all fun e=> !Region.binds .any e||listed.getD e.on false).getD true
theorem ajm {ops:Array Oper} {listed:Array Bool} (h:ajj ops listed=true):Shut ops listed:=fun j o hj hl e he hb=>by
 unfold ajj at h;rw[List.all_eq_true] at h;have h1:=h j (List.mem_range.2 (aS.1 hj).1);rw[hj,hl] at h1;simp only[Bool.not_true,Bool.false_or,Option.map_some,Option.getD_some,Array.all_eq_true] at h1;obtain⟨k,hk,rfl⟩:=Array.getElem_of_mem he;have h2:=h1 k hk;rw[hb] at h2;simpa using h2
theorem ajk {ops:Array Oper} {listed:Array Bool} (hs:Shut ops listed): ∀(f j i:Nat),(∀o,ops[j]? =some o-> ∀e∈o.after,Region.binds .any e=true->listed.getD e.on false=true)->aji ops f j i=true->listed.getD i false=true
 | 0,_,_,_,h=>by cases h
 |f+1,j,i,hj,h=>by
  unfold aji at h
  cases ho:ops[j]? with
  |none=>rw[ho] at h;cases h
  |some o=>
   rw[ho] at h;simp only[Option.map_some,Option.getD_some,Array.any_eq_true,Bool.and_eq_true,Bool.or_eq_true,beq_iff_eq] at h;obtain⟨k,hk,hb,h1⟩:=h;have hl:=hj o ho _ (Array.getElem_mem hk) hb
   rcases h1 with h1 |h1
   ·rw[<-h1];exact hl
   ·exact ajk hs f _ i (fun o2 ho2 e he hb2=>hs _ o2 ho2 hl e he hb2) h1
theorem ajl {listed:Array Bool} {j k:Nat} (h:listed.getD k false=true):(listed.setIfInBounds j true).getD k false=true:=by
 by_cases c:j=k
 ·subst c
  rcases Nat.lt_or_ge j listed.size with h' |h'
  ·simp[h']
  ·simp[Array.getElem?_eq_none h'] at h
 ·rcases Nat.lt_or_ge k listed.size with h' |h'
  ·simp[h',c] at h ⊢; exact h
  ·simp[Array.getElem?_eq_none h'] at h
theorem ajn {ops:Array Oper} {listed:Array Bool} (hs:Shut ops listed) {j:Nat} (hj: ∀o,ops[j]? =some o-> ∀e∈o.after,Region.binds .any e=true->listed.getD e.on false=true):Shut ops (listed.setIfInBounds j true):=fun k o hk hl e he hb=>by
 by_cases c:j=k
 ·subst c;exact ajl (hj o hk e he hb)
 ·refine ajl (hs k o hk ?_ e he hb)
  rcases Nat.lt_or_ge k listed.size with h' |h'
  ·simp[h',c] at hl ⊢; exact hl
  ·have e2:(listed.setIfInBounds j true).getD k false=false:=by
    simp only[Array.getD_eq_getD_getElem?];rw[Array.getElem?_eq_none (by simpa using h')];rfl
   rw[e2] at hl
   cases hl
def ah6 (P:Program) (K:Value->World->Prop):Result Next->Prop
 | .ok (.value v) w'=>K v w'
 | .ok .skip w'=>K undef w'
 | .ok (.enter f args) w'=>Calls P f args w' fun e w''=> ∃v,e= .returned v/\K v w''
 |_=>False
def ahO (P:Program) (o:Oper) (a:Act) (w:World) (K:Value->World->Prop):Prop:=ah6 P K ((execOp a.eval o).run P w)
theorem ahO.mono {o:Oper} {a:Act} {w:World} {K K':Value->World->Prop} (h:ahO P o a w K) (hk: ∀v w',K v w'->K' v w'):ahO P o a w K':=by
 unfold ahO at *;generalize (execOp a.eval o).run P w=r at *
 cases r with
 |ok n w'=>
  cases n<;>simp only[ah6] at h ⊢ <;>
   first
    |exact hk _ _ h
    |exact h.mono fun e w'' ⟨v,e1,k⟩=>⟨v,e1,hk _ _ k⟩
 |halt x w'=>exact h
theorem ahO.wp {o:Oper} {a:Act} {w:World} {K:Act->World->Prop} (h:ahO P o a w fun v w'=>K (a.put o.dst v) w'):o.wp P a w K Q:=by
 unfold ahO at h;unfold Oper.wp;generalize (execOp a.eval o).run P w=r at *
 cases r with
 |ok n w'=>
  cases n<;>simp only[ah6,Oper.upon] at h ⊢ <;>
   first
    |exact h
    | (refine h.mono ?_;rintro e w'' ⟨v,rfl,k⟩;exact k)
 |halt x w'=>exact h.elim
def LaS (P:Program) (ops:Array Oper) (Q:Exit->Act->World->Prop) (z:Nat) (S:World->Prop):Nat->Array Bool->Act->World->Prop
  | 0,listed,a,w=>Region.ready .any ops listed= []/\Q .normal a w
  |n+1,listed,a,w=>Region.ready .any ops listed≠ []/\ ∀i∈Region.ready .any ops listed,∃o,ops[i]? =some o/\
      ((Region.wanted o (yielded ops a.tmps)=false/\LaS P ops Q z S n (listed.setIfInBounds i true) (a.put o.dst undef) w)\/
       (Region.wanted o (yielded ops a.tmps)=true/\ahO P o a w fun v w'=>(i≠z/\i≠z+1->S w')/\LaS P ops Q z S n (listed.setIfInBounds i true) (a.put o.dst v) w'))
theorem ah7: ∀(n:Nat) (listed:Array Bool) (a:Act) (w:World),LaS P ops Q z S n listed a w->wpAny P .any ops Q n listed a w
  | 0,_,_,_,h=>h
  |n+1,_,_,_,h=>⟨fun e=>absurd e h.1,fun i hi=>by
      obtain⟨o,ho,hh⟩:=h.2 i hi;unfold Go.wpOp;simp only[ho]
      rcases hh with ⟨hw,h2⟩ |⟨hw,h2⟩
      · simp only[hw,Bool.false_eq_true,if_false];exact ah7 n _ _ _ h2
      · simp only[hw,if_true]
        exact .inl (ahO.wp (h2.mono fun v w' k=>ah7 n _ _ _ k.2))⟩
theorem aiJ {i:Nat} {oi:Oper} {v:Value} (hi:ops[i]? =some oi) (hsel: ∀(j:Nat) (o:Oper) cs b,ops[j]? =some o->o.op≠ .select cs b) (hz:ops.size<=z\/ ∃f,aji ops f z i=true) (hz2:ops.size<=z+1\/ ∃f,aji ops f (z+1) i=true):
    ∀(n:Nat) (listed:Array Bool) (a:Act) (w:World),Shut ops listed->
      (∀j oj,ops[j]? =some oj->j≠i->listed.getD j true=false->(∀e∈oj.after,Region.binds .any e=true->e.on≠i)->oi.apart ops oj=true)->
      i∈Region.ready .any ops listed->S w->Region.wanted oi (yielded ops a.tmps)=true->(∀u,S u->(execOp a.eval oi).run P u= .ok (.value v) u)->LaS P ops Q z S n (listed.setIfInBounds i true) (a.put oi.dst v) w->LaS P ops Q z S (n+1) listed a w:=by
  intro n
  induction n with
  |zero=>
    intro listed a w _ _ hr hS hw hy H;refine⟨fun h=>(by rw[h] at hr;cases hr),fun j hj=> ?_⟩;by_cases hji:j=i
    · subst hji
      refine⟨oi,hi,.inr ⟨hw, ?_⟩⟩;unfold ahO;rw[hy w hS];exact⟨fun _=>hS,H⟩
    · have h1:=ready_mono hj hji
      rw[H.1] at h1
      cases h1
  |succ n ih=>
    intro listed a w hsh hfree hr hS hw hy H;refine⟨fun h=>(by rw[h] at hr;cases hr),fun j hj=> ?_⟩;by_cases hji:j=i
    · subst hji
      refine⟨oi,hi,.inr ⟨hw, ?_⟩⟩;unfold ahO;rw[hy w hS];exact⟨fun _=>hS,H⟩
    · obtain⟨oj',hoj',H2⟩:=H.2 j (ready_mono hj hji)
      obtain⟨hjun,oj,hoj,hall⟩:=mem_ready.1 hj;have e1:oj'=oj:=Option.some.inj (hoj'.symm.trans hoj);rw[e1] at H2;have hun: ∀k,k=i->listed.getD k false=false:=fun k hk=>by
        subst hk;have h0:=(mem_ready.1 hr).1
        rcases Nat.lt_or_ge k listed.size with h' |h'
        · simp[h'] at h0 ⊢; exact h0
        · simp[Array.getElem?_eq_none h']
      have hnot: ∀e∈oj.after,Region.binds .any e=true->e.on≠i:=fun e he hb heq=>by
        have h1:=hall e he hb;rw[hun _ heq] at h1
        cases h1
      have hno: ∀y,(ops.size<=y\/ ∃f,aji ops f y i=true)->j≠y:=fun y hy e=>by
        subst e;have hjl:j<ops.size:=(aS.1 hoj).1
        rcases hy with hy |⟨f,hy⟩
        · omega
        · have:=ajk hsh f j i (fun o ho e he hb=>by rw[hoj] at ho;cases ho;exact hall e he hb) hy
          rw[hun i rfl] at this
          cases this
      have hjz:j≠z/\j≠z+1:=⟨hno z hz,hno (z+1) hz2⟩;obtain⟨h1,h2,h3⟩:=Oper.apart_spec (hfree j oj hoj hji hjun hnot);have hwj:Region.wanted oj (yielded ops (a.put oi.dst v).tmps)=Region.wanted oj (yielded ops a.tmps):=wanted_put oj a oi.dst v h1;have hej:execOp (a.put oi.dst v).eval oj=execOp a.eval oj:=execOp_put oj (fun cs b=>hsel j oj cs b hoj) a oi.dst v h1;have hfree': ∀k ok,ops[k]? =some ok->k≠i->(listed.setIfInBounds j true).getD k true=false->
          (∀e∈ok.after,Region.binds .any e=true->e.on≠i)->oi.apart ops ok=true:=fun k ok hk hki hun' hno=>by
        refine hfree k ok hk hki ?_ hno;by_cases hjk:j=k
        · subst hjk;exact hjun
        · rw[getD_set_ne true hjk] at hun';exact hun'
      have key: ∀(vj:Value) (w':World),S w'->LaS P ops Q z S n ((listed.setIfInBounds i true).setIfInBounds j true) ((a.put oi.dst v).put oj.dst vj) w'->LaS P ops Q z S (n+1) (listed.setIfInBounds j true) (a.put oj.dst vj) w':=fun vj w' hS' k=>by
        refine ih (listed.setIfInBounds j true) (a.put oj.dst vj) w' (ajn hsh fun o ho e he hb=>by rw[hoj] at ho;cases ho;exact hall e he hb) hfree' (ready_mono hr (Ne.symm hji)) hS' ?_ (fun u hu=> ?_) ?_
        · rw[wanted_put oi a oj.dst vj h3];exact hw
        · rw[execOp_put oi (fun cs b=>hsel i oi cs b hi) a oj.dst vj h3];exact hy u hu
        · rw[Array.setIfInBounds_comm _ _ hji,<-Act.put_comm a v vj h2]
          exact k
      refine⟨oj,hoj, ?_⟩
      rcases H2 with ⟨hw2,k⟩ |⟨hw2,k⟩
      · exact .inl ⟨hwj.symm.trans hw2,key _ _ hS k⟩
      · refine .inr ⟨hwj.symm.trans hw2, ?_⟩
        unfold ahO at k ⊢;rw[hej] at k;exact ahO.mono (o:=oj) (a:=a) (w:=w) k fun vj w' hk=>⟨hk.1,key vj w' (hk.1 hjz) hk.2⟩
theorem ahN (i:Nat) {o:Oper} (v:Value) {n:Nat} {listed:Array Bool} {a:Act} {w:World} (hS:S w) (h:LaS P ops Q z S n (listed.setIfInBounds i true) (a.put o.dst v) w) (ho:ops[i]? =some o:=by rfl) (hw:Region.wanted o (yielded ops a.tmps)=true:=by rfl) (hr: ∀u,S u->(execOp a.eval o).run P u= .ok (.value v) u)
  (hs:Region.noSelect ops=true:=by kernel_rfl) (hf:Region.free .any ops listed i=true:=by kernel_rfl) (hc:(Region.ready .any ops listed).contains i=true:=by kernel_rfl) (hsh:ajj ops listed=true:=by kernel_rfl) (hz:ops.size<=z\/ ∃f,aji ops f z i=true:=by first | (refine .inl ?_;decide) | (refine .inr ⟨1, ?_⟩;decide+kernel) | (refine .inr ⟨2, ?_⟩;decide+kernel) | (refine .inr ⟨3, ?_⟩;decide+kernel) | (refine .inr ⟨6, ?_⟩;decide+kernel)) (hz2:ops.size<=z+1\/ ∃f,aji ops f (z+1) i=true:=by first | (refine .inl ?_;decide) | (refine .inr ⟨1, ?_⟩;decide+kernel) | (refine .inr ⟨2, ?_⟩;decide+kernel) | (refine .inr ⟨3, ?_⟩;decide+kernel) | (refine .inr ⟨6, ?_⟩;decide+kernel)):LaS P ops Q z S (n+1) listed a w:=
 aiJ ho (Region.noSelect_spec hs) hz hz2 n listed a w (ajm hsh) (Region.free_spec ho hf) (by simpa using hc) hS hw hr h
theorem ahQ (i:Nat) {o:Oper} {n:Nat} {listed:Array Bool} {a:Act} {w:World} (ho:ops[i]? =some o:=by rfl) (hw:Region.wanted o (yielded ops a.tmps)=true:=by rfl) (hc:Region.ready .any ops listed= [i]:=by kernel_rfl) (h:ahO P o a w fun v w'=>(i≠z/\i≠z+1->S w')/\LaS P ops Q z S n (listed.setIfInBounds i true) (a.put o.dst v) w'):LaS P ops Q z S (n+1) listed a w:=
 ⟨by rw[hc];exact List.cons_ne_nil _ _,fun j hj=>by
  rw[hc,List.mem_singleton] at hj;subst hj;exact⟨o,ho,.inr ⟨hw,h⟩⟩⟩
theorem aie (i j:Nat) {oi oj:Oper} {n:Nat} {listed:Array Bool} {a:Act} {w:World} (h1:ahO P oi a w fun v w'=>(i≠z/\i≠z+1->S w')/\LaS P ops Q z S n (listed.setIfInBounds i true) (a.put oi.dst v) w') (h2:ahO P oj a w fun v w'=>(j≠z/\j≠z+1->S w')/\LaS P ops Q z S n (listed.setIfInBounds j true) (a.put oj.dst v) w')
  (hoi:ops[i]? =some oi:=by rfl) (hoj:ops[j]? =some oj:=by rfl) (hwi:Region.wanted oi (yielded ops a.tmps)=true:=by rfl) (hwj:Region.wanted oj (yielded ops a.tmps)=true:=by rfl) (hc:Region.ready .any ops listed= [i,j]:=by kernel_rfl):LaS P ops Q z S (n+1) listed a w:=
 ⟨by rw[hc];exact List.cons_ne_nil _ _,fun k hk=>by
  rw[hc,List.mem_cons,List.mem_singleton] at hk
  rcases hk with rfl |rfl
  ·exact⟨oi,hoi,.inr ⟨hwi,h1⟩⟩
  ·exact⟨oj,hoj,.inr ⟨hwj,h2⟩⟩⟩
theorem aif {id:Nat} {a:Act} {w:World} (z n:Nat) (S:World->Prop) (hm:P.follows .mixedOrders=true) (h:LaS P ops Q z S n (Array.replicate n false) a w.drew) (hn:ops.size=n:=by rfl):(Code.region id ops true).wp P Q a w:=
 wp_region_any hm (by rw[hn];exact ah7 _ _ _ _ h)
theorem ahZ {listed:Array Bool} {a:Act} {w:World} (h:Q .normal a w) (hr:Region.ready .any ops listed= []:=by kernel_rfl):LaS P ops Q z S 0 listed a w:=⟨hr,h⟩
theorem ah0 {o:Oper} {a:Act} {w w':World} {v:Value} {K:Value->World->Prop} (hr:(execOp a.eval o).run P w= .ok (.value v) w') (h:K v w'):ahO P o a w K:=by unfold ahO;rw[hr];exact h
theorem ah1 {o:Oper} {a:Act} {w w':World} {K:Value->World->Prop} (hr:(execOp a.eval o).run P w= .ok .skip w') (h:K undef w'):ahO P o a w K:=by unfold ahO;rw[hr];exact h
theorem aii {o:Oper} {a:Act} {w:World} {K:Value->World->Prop} (s x:Operand) (t:TypeId)
  (ho:o.op= .call {callee:= .builtin .append,args:= #[s,x],argTypes:= #[t,t]})
  (base:Nat) (e:TypeId) (i:TypeInfo) (z:Value) (size bytes:Nat) (ht:P.underlying t=some (.slice e)) (hi:P.info? e=some i) (hz:i.zero=some z)
  (hsize:i.size=size) (hby:i.bytes=bytes) (hzs:z.cells.size=size) (hsz:0<size)
  (v:Value) (n:Nat) (xs:List Value) (hs:a.eval s=v) (hown:w.ownsRow base e size v n xs)
  (ad:Addr) (m c:Nat) (news:List Value) (hx:a.eval x= .slice (some ad) m c) (hl:news.length=m*size) (hnews: ∀j u,news[j]? =some u->w.cell? (ad.add j)=some u) (h1: ∀u∈news,u.oneCell'=true)
  (h63:n+m<=maxLen) (hbytes:(n+m)*bytes<=140737488355328) (hbase:base<=w.heap.size)
  (h: ∀v' w',w'.ownsRow base e size v' (n+m) (xs++news)->w.grownBy w' v.ownBlock->(v'= .slice none 0 0↔v= .slice none 0 0/\m=0)->K v' w'):ahO P o a w K:=by
 obtain⟨v',w',hr,h2,h3,h4⟩:=run_append_own (P:=P) w base t o.type e i z size bytes ht hi hz hsize hby hzs hsz v n xs hown ad m c news hl hnews h1 h63 hbytes hbase;unfold ahO execOp;simp only[ho,resolve,invoke,builtin,Sem.run_bind,Sem.run_pure,Result.andThen_ok,List.map_toArray,List.map_cons,List.map_nil,hs,hx,hr];exact h v' w' h2 h3 h4
end
end Go.Proofs.YtaikibfkggglgaaDoor
namespace Go.Proofs.YtaikibfkggglgaaDoor
open Go.RowKit Go.Rent Go.Tp Go.Conc
abbrev ahS:=Int×Int×List (Int×Int)
def lk3 (L:Lnk):ahS:=(L.one,L.two,L.steps)
def pr3 (p:Pr):ahS:=(p.one,p.two,p.calls)
structure RwV (w:World) (l:List ahS) (vs:List (Int×Int×Value)):Prop where
 len:vs.length=l.length
 get: ∀(i:Nat) (x:ahS),l[i]? =some x-> ∃sa sc,vs[i]? =some (x.1,x.2.1,.slice sa x.2.2.length sc)/\SlB w sa x.2.2/\x.2.2.length<=1000000
section
variable {w w':World} {l l':List ahS} {vs vs':List (Int×Int×Value)}
theorem RwV.nil:RwV w [] []:=⟨rfl,fun i x h=>by cases h⟩
theorem RwV.below (h:RwV w l vs) {n:Nat} (hb:Below n w w') (hn:w.heap.size<=n):RwV w' l vs:=⟨h.len,fun i x hx=>by
 obtain⟨sa,sc,h1,h2,h3⟩:=h.get i x hx;exact⟨sa,sc,h1,h2.below hb hn,h3⟩⟩
theorem RwV.append (h:RwV w l vs) (h':RwV w l' vs'):RwV w (l++l') (vs++vs'):=⟨by rw[List.length_append,List.length_append,h.len,h'.len],fun i x hx=>by
 by_cases c:i<l.length
 ·rw[List.getElem?_append_left c] at hx;obtain⟨sa,sc,h1,h2,h3⟩:=h.get i x hx;exact⟨sa,sc,by rw[List.getElem?_append_left (by rw[h.len];exact c)];exact h1,h2,h3⟩
 ·rw[List.getElem?_append_right (by omega)] at hx;obtain⟨sa,sc,h1,h2,h3⟩:=h'.get _ x hx;exact⟨sa,sc,by rw[List.getElem?_append_right (by rw[h.len];omega),h.len];exact h1,h2,h3⟩⟩
theorem RwV.take (h:RwV w l vs) (k:Nat):RwV w (l.take k) (vs.take k):=⟨by rw[List.length_take,List.length_take,h.len],fun i x hx=>by
 rw[List.getElem?_take] at hx
 split at hx
 ·rename_i c;obtain⟨sa,sc,h1,h2,h3⟩:=h.get i x hx;exact⟨sa,sc,by rw[List.getElem?_take,if_pos c];exact h1,h2,h3⟩
 ·cases hx⟩
theorem RwV.drop (h:RwV w l vs) (k:Nat):RwV w (l.drop k) (vs.drop k):=⟨by rw[List.length_drop,List.length_drop,h.len],fun i x hx=>by
 rw[List.getElem?_drop] at hx;obtain⟨sa,sc,h1,h2,h3⟩:=h.get _ x hx;exact⟨sa,sc,by rw[List.getElem?_drop];exact h1,h2,h3⟩⟩
theorem RwV.one (h:RwV w l vs): ∀u∈tri vs,u.oneCell'=true:=EY _ fun x hx=>by
 obtain⟨i,hi,rfl⟩:=List.getElem_of_mem hx;obtain⟨sa,sc,h1,_,_⟩:=h.get i _ (lG (by rw[<-h.len];exact hi));rw[lG hi] at h1;rw[Option.some.inj h1];rfl
theorem ah2: ∀(a b:List (Int×Int×Value)),tri (a++b)=tri a++tri b
 | [],_=>rfl
 |x::a,b=>by simp[tri,ah2 a b]
theorem aiL (k:Nat): ∀(a:List (Int×Int×Value)),k<=a.length-> ∀j,(tri (a.drop k))[j]? =(tri a)[k*3+j]? :=by
 intro a hk j;have:tri a=tri (a.take k)++tri (a.drop k):=by rw[<-ah2,List.take_append_drop]
 rw[this,List.getElem?_append_right (by rw[ES,List.length_take];omega),ES,List.length_take]
 congr 1
 omega
theorem aiM (k:Nat) (a:List (Int×Int×Value)) {j:Nat} {u:Value} (h:(tri (a.take k))[j]? =some u):(tri a)[j]? =some u:=by
 have:tri a=tri (a.take k)++tri (a.drop k):=by rw[<-ah2,List.take_append_drop]
 rw[this,List.getElem?_append_left (lS.1 h).1];exact h
end
def ahP (w:World) (b o:Nat) (vs:List (Int×Int×Value)):Prop:= ∀(j:Nat) (u:Value),(tri vs)[j]? =some u->w.cell? ((⟨b,o,none⟩:Addr).add j)=some u
theorem ahP.below {w w':World} {b o n:Nat} {vs:List (Int×Int×Value)} (h:ahP w b o vs) (hb:Below n w w') (hn:w.heap.size<=n):ahP w' b o vs:=fun j u hu=>by
 have:=h j u hu;rw[BH] at this ⊢;exact cell_below hb this hn
theorem ahP.take {w:World} {b o:Nat} {vs:List (Int×Int×Value)} (h:ahP w b o vs) (k:Nat):ahP w b o (vs.take k):=fun j u hu=>h j u (aiM k vs hu)
theorem ahP.drop {w:World} {b o:Nat} {vs:List (Int×Int×Value)} (h:ahP w b o vs) {k:Nat} (hk:k<=vs.length):ahP w b (o+k*3) (vs.drop k):=fun j u hu=>by
 rw[aiL k vs hk] at hu;have:=h _ u hu;rw[BH] at this ⊢;rwa [Nat.add_assoc]
theorem aiN {w:World} {b o:Nat} {l:List ahS} (h: ∀(i:Nat) (x:ahS),l[i]? =some x-> ∃sa sc,w.cell? ⟨b,o+i*3,none⟩=some (.int .i64 x.1)/\w.cell? ⟨b,o+i*3+1,none⟩=some (.int .i64 x.2.1)/\w.cell? ⟨b,o+i*3+2,none⟩=some (.slice sa x.2.2.length sc)/\SlB w sa x.2.2/\x.2.2.length<=1000000):
  ∃vs,RwV w l vs/\ahP w b o vs:=by
 have hv: ∀i,i<l.length->((List.range l.length).map fun i=>((((l[i]?).map (·.1)).getD 0,((l[i]?).map (·.2.1)).getD 0,(w.cell? ⟨b,o+i*3+2,none⟩).getD undef):Int×Int×Value))[i]? =some (((l[i]?).map (·.1)).getD 0,((l[i]?).map (·.2.1)).getD 0,(w.cell? ⟨b,o+i*3+2,none⟩).getD undef):=fun i hi=>by
  rw[List.getElem?_map,List.getElem?_range hi];rfl
 refine⟨(List.range l.length).map fun i=>(((l[i]?).map (·.1)).getD 0,((l[i]?).map (·.2.1)).getD 0,(w.cell? ⟨b,o+i*3+2,none⟩).getD undef),⟨by simp,fun i x hx=> ?_⟩,fun j u hu=> ?_⟩
 ·obtain⟨sa,sc,_,_,h3,h4,h5⟩:=h i x hx;refine⟨sa,sc, ?_,h4,h5⟩;rw[hv i (lS.1 hx).1,hx,h3];rfl
 ·obtain⟨i,y,hy,hh⟩:=EU _ j u hu;have hi:i<l.length:=by have:=(lS.1 hy).1;simpa using this
  rw[hv i hi] at hy
  cases hy
  obtain⟨sa,sc,h1,h2,h3,_⟩:=h i _ (lG hi);rw[lG hi] at hh;simp only[Option.map_some,Option.getD_some,h3] at hh;rw[BH]
  rcases hh with ⟨rfl,rfl⟩ |⟨rfl,rfl⟩ |⟨rfl,rfl⟩
  ·exact h1
  ·rw[<-Nat.add_assoc];exact h2
  ·rw[<-Nat.add_assoc];exact h3
theorem ail {w:World} {b o:Nat} {ls:List Lnk} (h:jr w (some ⟨b,o,none⟩) ls): ∃vs,RwV w (ls.map lk3) vs/\ahP w b o vs:=aiN fun i x hx=>by
 rw[List.getElem?_map,Option.map_eq_some_iff] at hx;obtain⟨L,hL,rfl⟩:=hx;obtain⟨b2,o2,sa,sc,e,h1,h2,h3,h4,h5⟩:=h i L hL
 cases e
 exact⟨sa,sc,h1,h2,h3,h4,h5⟩
theorem ajN {w:World} {b o:Nat} {ls:List Pr} (h:jv w (some ⟨b,o,none⟩) ls): ∃vs,RwV w (ls.map pr3) vs/\ahP w b o vs:=aiN fun i x hx=>by
 rw[List.getElem?_map,Option.map_eq_some_iff] at hx;obtain⟨L,hL,rfl⟩:=hx;obtain⟨b2,o2,sa,sc,e,h1,h2,h3,h4,h5⟩:=h i L hL
 cases e
 exact⟨sa,sc,h1,h2,h3,h4,h5⟩
theorem aiO {w:World} {b o i:Nat} {l:List ahS} {vs:List (Int×Int×Value)} {x:ahS} (hr:RwV w l vs) (ht:ahP w b o vs) (hx:l[i]? =some x): ∃sa sc,w.cell? ⟨b,o+i*3,none⟩=some (.int .i64 x.1)/\w.cell? ⟨b,o+i*3+1,none⟩=some (.int .i64 x.2.1)/\w.cell? ⟨b,o+i*3+2,none⟩=some (.slice sa x.2.2.length sc)/\SlB w sa x.2.2/\x.2.2.length<=1000000:=by
 obtain⟨sa,sc,h1,h2,h3⟩:=hr.get i x hx;obtain⟨g0,g1,g2⟩:=ET vs i _ h1;have k0:=ht _ _ g0;have k1:=ht _ _ g1;have k2:=ht _ _ g2;rw[BH] at k0 k1 k2;exact⟨sa,sc,k0,by rw[Nat.add_assoc];exact k1,by rw[Nat.add_assoc];exact k2,h2,h3⟩
theorem ain {w:World} {b o:Nat} {ls:List Lnk} {vs:List (Int×Int×Value)} (hr:RwV w (ls.map lk3) vs) (ht:ahP w b o vs):jr w (some ⟨b,o,none⟩) ls:=fun i L hL=>by
 obtain⟨sa,sc,h1,h2,h3,h4,h5⟩:=aiO hr ht (i:=i) (x:=lk3 L) (by rw[List.getElem?_map,hL];rfl);exact⟨b,o,sa,sc,rfl,h1,h2,h3,h4,h5⟩
theorem akP {w:World} {b o:Nat} {ls:List Pr} {vs:List (Int×Int×Value)} (hr:RwV w (ls.map pr3) vs) (ht:ahP w b o vs):jv w (some ⟨b,o,none⟩) ls:=fun i L hL=>by
 obtain⟨sa,sc,h1,h2,h3,h4,h5⟩:=aiO hr ht (i:=i) (x:=pr3 L) (by rw[List.getElem?_map,hL];rfl);exact⟨b,o,sa,sc,rfl,h1,h2,h3,h4,h5⟩
theorem aio {w:World} {g:Nat} {vs:List (Int×Int×Value)} (h: ∀(j:Nat) (u:Value),(tri vs)[j]? =some u->w.cell? ⟨g,j,none⟩=some u):ahP w g 0 vs:=fun j u hu=>by
 rw[BH,Nat.zero_add];exact h j u hu
theorem aip (w:World) (n:Nat) (e:TypeId) (s:Nat) (hn:n<=w.heap.size):(w.alloc (.cells #[] e)).ownsRow n e s (.slice (some ⟨w.heap.size,0,none⟩) 0 0) 0 []:=
 ⟨by simp,.inr ⟨w.heap.size,0,#[],rfl,hn,(MapKept.heap_alloc w _).1,nR _,Nat.zero_le _,by simp,by simp⟩⟩
theorem aiq:Tryd.prog.elem 23=79:=by kernel_rfl
theorem air (la:Option Addr) (n k c:Nat) (hk:k<=n) (hn:n<=c) (u:World):(Instr.slice 23 (.slice la n c) none (some (.int .i64 (k:Int))) none).run Tryd.prog u= .ok (.slice la k c) u:=by
 have ht:Tryd.prog.underlying 23=some (.slice (Tryd.prog.elem 23)):=by kernel_rfl
 have z79:=Tryd.sizeOf79;rw[run_slice_h u 23 la n c ht .i64 (k:Int) (by omega) (by omega),aiq];simp[sliced,z79,Result.andThen];intro _
 cases la<;>simp[Addr.add]
theorem FN (B:Bk) (a b:Int): ∀n i,0<=B.directFrom a b n i->B.one (B.directFrom a b n i).toNat=a/\B.two (B.directFrom a b n i).toNat=b
 | 0,i,h=>by unfold Bk.directFrom at h;omega
 |n+1,i,h=>by
  unfold Bk.directFrom at h ⊢;by_cases e:B.one i=a/\B.two i=b
  ·rw[if_pos e,Int.toNat_natCast];exact e
  ·rw[if_neg e] at h ⊢; exact FN B a b n (i+1) h
theorem FP {B:Bk} {a b:Int} (h:0<=B.direct a b):B.one (B.direct a b).toNat=a/\B.two (B.direct a b).toNat=b:=FN B a b _ _ h
theorem FQ {nt hours:Int}: ∀(l:List Pr) (S:List (Int×Int)),fP nt hours S l=0->(∀x∈l,bZ S x.one x.two=false)/\ ∀(i j:Nat) (x y:Pr),i<j->l[i]? =some x->l[j]? =some y-> ¬(x.one=y.one/\x.two=y.two)
 | [],S,_=>⟨fun x hx=>(by cases hx),fun i j x y _ h=>(by cases h)⟩
 |p::l,S,h=>by
  unfold fP at h
  split at h
  ·cases h
  split at h
  ·cases h
  split at h
  ·cases h
  rename_i hm
  split at h
  ·split at h
   ·cases h
   obtain⟨h1,h2⟩:=FQ l _ h;have hs: ∀x∈l,bZ S x.one x.two=false/\ ¬(p.one=x.one/\p.two=x.two):=fun x hx=>by
    have:=h1 x hx;rw[Ce,Bool.or_eq_false_iff] at this;refine⟨this.2,fun⟨e1,e2⟩=> ?_⟩;have h3:=this.1;rw[e1,e2] at h3;simp at h3
   refine⟨fun x hx=> ?_,fun i j x y hij hx hy=> ?_⟩
   ·rcases List.mem_cons.1 hx with e |e
    ·subst e;simpa using hm
    ·exact(hs x e).1
   ·cases j with
    |zero=>omega
    |succ j=>
     rw[List.getElem?_cons_succ] at hy
     cases i with
     |zero=>cases hx;exact(hs y (List.mem_of_getElem? hy)).2
     |succ i=>exact h2 i j x y (by omega) (by simpa using hx) hy
  ·cases h
theorem Ol {B:Bk} (h:B.alarm=0) {i j:Nat} (hij:i<j) (hj:j<B.pairs.length): ¬(B.pone i=B.pone j/\B.ptwo i=B.ptwo j):=by
 obtain⟨_,_,_,h3⟩:=GX h;unfold dR at h3
 split at h3
 ·cases h3
 have hx:B.pairs[i]? =some B.pairs[i]:=lG (by omega);have hy:B.pairs[j]? =some B.pairs[j]:=lG hj;have:=(FQ _ _ h3).2 i j _ _ hij hx hy;unfold Bk.pone Bk.ptwo;rw[hx,hy];exact this
theorem Om (B:Bk) (T:Nat->Int) (n a b:Int) (out:Nat->Int) {k:Nat} (h1:k≠(a-1).toNat) (h2:k≠(b-1).toNat):B.go T n a b out k=if a≠0/\B.direct a b=k then min n (T k) else out k:=by
 unfold Bk.go;by_cases ha:a=0
 ·rw[if_pos ha,if_neg (by omega)];exact dQ _ _ h2
 ·rw[if_neg ha];rw[dQ _ _ h2,dQ _ _ h1];by_cases hk:0<=B.direct a b
  ·simp only[if_pos hk];by_cases e:B.direct a b=k
   ·rw[if_pos ⟨ha,e⟩,e,Int.toNat_natCast];simp
   ·rw[if_neg (fun h=>e h.2)];exact dQ _ _ (by omega)
  ·simp only[if_neg hk];rw[if_neg (by omega)]
theorem BN (B:Bk) (T T' c:Nat->Int) (h: ∀i,i<B.pairs.length->B.pone i≠0->0<=B.direct (B.pone i) (B.ptwo i)->min (c i) (T' (B.direct (B.pone i) (B.ptwo i)).toNat)=min (c i) (T (B.direct (B.pone i) (B.ptwo i)).toNat)): ∀n,n<=B.pairs.length->B.loadTo T' c n=B.loadTo T c n
 | 0,_=>rfl
 |n+1,hn=>by
  unfold Bk.loadTo;rw[BN B T T' c h n (by omega)];unfold Bk.go;by_cases ha:B.pone n=0
  ·rw[if_pos ha,if_pos ha]
  ·rw[if_neg ha,if_neg ha];by_cases hk:0<=B.direct (B.pone n) (B.ptwo n)
   ·simp only[if_pos hk];rw[h n (by omega) ha hk]
   ·simp only[if_neg hk]
theorem Oo (B:Bk) (hB:B.Fine) (T:Nat->Int) {n n' a b:Int} {out out':Nat->Int} (hn:n<=n') (h: ∀j,j<B.spokes->out j<=out' j) (hab:a≠0->1<=a/\a<b):
  ∀j,j<B.spokes->B.go T n a b out j<=B.go T n' a b out' j:=by
 intro j hj;have hj':=h j hj;unfold Bk.go;by_cases ha:a=0
 ·rw[if_pos ha,if_pos ha];unfold fup
  split
  ·rename_i e;rw[<-e];omega
  ·exact hj'
 ·rw[if_neg ha,if_neg ha];have hab:=hab ha;have hne:(a-1).toNat≠(b-1).toNat:=by omega
  by_cases hk:0<=B.direct a b
  ·simp only[if_pos hk];have hkb:=pF B hB a b;have hkk:B.spokes<=(B.direct a b).toNat:=by omega
   generalize (B.direct a b).toNat=k at *;have hjk:j≠k:=by omega
   unfold fup;simp only[if_neg (Ne.symm hne)];by_cases e1:j=(b-1).toNat
   ·rw[if_pos e1,if_pos e1,<-e1,if_neg hjk,if_neg hjk];omega
   ·rw[if_neg e1,if_neg e1];by_cases e2:j=(a-1).toNat
    ·rw[if_pos e2,if_pos e2,<-e2,if_neg hjk,if_neg hjk];omega
    ·rw[if_neg e2,if_neg e2,if_neg hjk,if_neg hjk];exact hj'
  ·simp only[if_neg hk];unfold fup;simp only[if_neg (Ne.symm hne)];by_cases e1:j=(b-1).toNat
   ·rw[if_pos e1,if_pos e1,<-e1];omega
   ·rw[if_neg e1,if_neg e1];by_cases e2:j=(a-1).toNat
    ·rw[if_pos e2,if_pos e2,<-e2];omega
    ·rw[if_neg e2,if_neg e2];exact hj'
theorem FU (B:Bk) (hB:B.Fine) (T c c':Nat->Int) (hc: ∀i,i<B.pairs.length->c i<=c' i): ∀n,n<=B.pairs.length-> ∀j,j<B.spokes->B.loadTo T c n j<=B.loadTo T c' n j
 | 0,_,_,_=>Int.le_refl _
 |n+1,hn,j,hj=>by
  unfold Bk.loadTo;have he:=hB.ends n (by omega);exact Oo B hB T (hc n (by omega)) (FU B hB T c c' hc n (by omega)) (fun h=>by omega) j hj
theorem FV {B:Bk} (hB:B.Fine) (most:Bool) (h i:Nat):B.call most h i<=B.call true h i:=by
 unfold Bk.call
 cases e:B.pairs[i]? with
 |none=>exact Int.le_refl _
 |some p=>
  simp only[Option.bind_some]
  cases e2:p.calls[h]? with
  |none=>exact Int.le_refl _
  |some x=>
   have:=(hB.calls i p e).2 h x e2
   cases most<;>simp<;>omega
theorem Oq {B:Bk} (hB:B.Fine) (T:Nat->Int) (most:Bool) (h:Nat) {j:Nat} (hj:j<B.spokes):B.inn T most h j<=B.inn T true h j:=
 FU B hB T _ _ (fun i _=>FV hB most h i) _ (nR _) j hj
theorem BO (B:Bk) (T:Nat->Int) (j:Nat): ∀n h,h<n->B.inn T true h j<=bW B T n j
 | 0,h,hh=>by omega
 |n+1,h,hh=>by
  unfold bW;by_cases e:h=n
  ·subst e;omega
  ·have:=BO B T j n h (by omega);omega
theorem FW (B:Bk) (T:Nat->Int) (j:Nat) {m:Int} (hm:0<=m): ∀n,(∀h,h<n->B.inn T true h j<=m)->bW B T n j<=m
 | 0,_=>hm
 |n+1,hh=>by
  unfold bW;have h1:=FW B T j hm n fun h a=>hh h (by omega);have h2:=hh n (by omega);omega
theorem rM (B:Bk) (T:Nat->Int) (j:Nat): ∀n,0<=bW B T n j
 | 0=>Int.le_refl _
 |n+1=>by unfold bW;have:=rM B T j n;omega
theorem FY (B:Bk) {T T':Nat->Int} (j:Nat): ∀n,(∀h,h<n->B.inn T' true h j=B.inn T true h j)->bW B T' n j=bW B T n j
 | 0,_=>rfl
 |n+1,hh=>by
  unfold bW;rw[FY B j n fun h a=>hh h (by omega),hh n (by omega)]
theorem adT {nt:Int}: ∀(l:List Lnk) (k:Nat) (S:List (Int×Int)),fO nt k S l=0->(∀x∈l,bZ S x.one x.two=false)/\ ∀(i j:Nat) (x y:Lnk),i<j->l[i]? =some x->l[j]? =some y-> ¬(x.one=y.one/\x.two=y.two)
 | [],_,S,_=>⟨fun x hx=>(by cases hx),fun i j x y _ h=>(by cases h)⟩
 |p::l,k,S,h=>by
  unfold fO at h
  split at h
  ·cases h
  split at h
  ·cases h
  split at h
  ·cases h
  rename_i hm
  split at h
  ·obtain⟨h1,h2⟩:=adT l _ _ h;have hs: ∀x∈l,bZ S x.one x.two=false/\ ¬(p.one=x.one/\p.two=x.two):=fun x hx=>by
    have:=h1 x hx;rw[Ce,Bool.or_eq_false_iff] at this;refine⟨this.2,fun⟨e1,e2⟩=> ?_⟩;have h3:=this.1;rw[e1,e2] at h3;simp at h3
   refine⟨fun x hx=> ?_,fun i j x y hij hx hy=> ?_⟩
   ·rcases List.mem_cons.1 hx with e |e
    ·subst e;simpa using hm
    ·exact(hs x e).1
   ·cases j with
    |zero=>omega
    |succ j=>
     rw[List.getElem?_cons_succ] at hy
     cases i with
     |zero=>cases hx;exact(hs y (List.mem_of_getElem? hy)).2
     |succ i=>exact h2 i j x y (by omega) (by simpa using hx) hy
  ·exact absurd h (by assumption)
theorem aeb {B:Bk} (h:B.alarm=0) {i j:Nat} (hij:i<j) (hj:j<B.links.length): ¬(B.one i=B.one j/\B.two i=B.two j):=by
 obtain⟨_,_,h3,_⟩:=GX h;unfold dA at h3
 split at h3
 ·have hx:B.links[i]? =some B.links[i]:=lG (by omega);have hy:B.links[j]? =some B.links[j]:=lG hj;have:=(adT _ _ _ h3).2 i j _ _ hij hx hy;unfold Bk.one Bk.two;rw[hx,hy];exact this
 ·cases h3
theorem adU (B:Bk) {a b:Int} {j:Nat} (hj:B.one j=a/\B.two j=b): ∀n i,i<=j->j<i+n->0<=B.directFrom a b n i/\B.directFrom a b n i<=j
 | 0,i,_,h=>by omega
 |n+1,i,h1,h2=>by
  unfold Bk.directFrom;by_cases e:B.one i=a/\B.two i=b
  ·rw[if_pos e];omega
  ·rw[if_neg e];have:i≠j:=fun e2=>e (e2▸hj);exact adU B hj n (i+1) (by omega) (by omega)
theorem aes {B:Bk} (h:B.alarm=0) (a b:Int) {j:Nat} (h1:B.spokes<=j) (h2:j<B.links.length):(B.one j=a/\B.two j=b)↔B.direct a b=(j:Int):=by
 constructor
 ·intro hj;have hl:=adU B hj (B.links.length-B.spokes) B.spokes h1 (by omega);have he:=FP (B:=B) (a:=a) (b:=b) hl.1;have hd:B.direct a b=B.directFrom a b (B.links.length-B.spokes) B.spokes:=rfl;rw[<-hd] at hl;by_cases e:B.direct a b=(j:Int)
  ·exact e
  ·exact absurd ⟨he.1.trans hj.1.symm,he.2.trans hj.2.symm⟩ (aeb h (i:=(B.direct a b).toNat) (by omega) h2)
 ·intro e;have:=FP (B:=B) (a:=a) (b:=b) (by omega);rw[e,Int.toNat_natCast] at this;exact this
def adr (B:Bk) (T:Nat->Int) (a b:Int):Int:=if 0<=B.direct a b then T (B.direct a b).toNat else 0
def incr (B:Bk) (T:Nat->Int) (n a b:Int) (k:Nat):Int:=
 if a=0 then (if (k:Int)=b-1 then n else 0)
 else (if B.direct a b=k then min n (adr B T a b) else 0)+if (k:Int)=a-1\/(k:Int)=b-1 then n-min n (adr B T a b) else 0
def adu (B:Bk) (T:Nat->Int) (c:Nat->Int) (k:Nat):Nat->Int
 | 0=>0
 |i+1=>adu B T c k i+incr B T (c i) (B.pone i) (B.ptwo i) k
theorem adV {B:Bk} (hB:B.Fine) (T c:Nat->Int) {k:Nat} (hk:B.spokes<=k): ∀n,n<=B.pairs.length->(∀i,i<n->B.pone i≠0->B.direct (B.pone i) (B.ptwo i)≠k)->B.loadTo T c n k=0
 | 0,_,_=>rfl
 |n+1,hn,h=>by
  have he:=hB.ends n (by omega);have ht:B.spokes=B.towns.length-1:=rfl;unfold Bk.loadTo;rw[Om B T _ _ _ _ (by omega) (by omega),if_neg (fun⟨h1,h2⟩=>h n (by omega) h1 h2)];exact adV hB T c hk n (by omega) fun i hi=>h i (by omega)
theorem aec {B:Bk} (hB:B.Fine) (T:Nat->Int) {n a b:Int} (hn:0<=n) (out:Nat->Int) (k:Nat) (hab:0<=a/\a<b/\b<B.towns.length) (h0:a≠0->B.direct a b=k->out k=0):B.go T n a b out k=out k+incr B T n a b k:=by
 have hd:=pF B hB a b;have ht:B.spokes=B.towns.length-1:=rfl;unfold Bk.go incr adr;by_cases ha:a=0
 ·rw[if_pos ha,if_pos ha];by_cases e:k=(b-1).toNat
  ·rw[<-e,BZ,if_pos (by omega)]
  ·rw[dQ _ _ e,if_neg (by omega)];omega
 ·rw[if_neg ha,if_neg ha];by_cases hk:0<=B.direct a b
  ·simp only[if_pos hk];generalize min n (T (B.direct a b).toNat)=m at *;by_cases e1:k=(b-1).toNat
   ·rw[<-e1,BZ,dQ _ _ (by omega),dQ _ _ (by omega),if_neg (by omega),if_pos (by omega)];omega
   ·rw[dQ _ _ e1];by_cases e2:k=(a-1).toNat
    ·rw[<-e2,BZ,dQ _ _ (by omega),if_neg (by omega),if_pos (by omega)];omega
    ·rw[dQ _ _ e2];by_cases e3:k=(B.direct a b).toNat
     ·rw[<-e3,BZ,h0 ha (by omega),if_pos (by omega),if_neg (by omega)];omega
     ·rw[dQ _ _ e3,if_neg (by omega),if_neg (by omega)];omega
  ·simp only[if_neg hk];rw[Int.min_eq_right hn];by_cases e1:k=(b-1).toNat
   ·rw[<-e1,BZ,dQ _ _ (by omega),if_pos (show (k:Int)=a-1\/(k:Int)=b-1 by omega)]
    split<;>omega
   ·rw[dQ _ _ e1];by_cases e2:k=(a-1).toNat
    ·rw[<-e2,BZ,if_pos (show (k:Int)=a-1\/(k:Int)=b-1 by omega)]
     split<;>omega
    ·rw[dQ _ _ e2,if_neg (show ¬((k:Int)=a-1\/(k:Int)=b-1) by omega)]
     split<;>omega
theorem adW {B:Bk} (hB:B.Fine) (hA:B.alarm=0) (T c:Nat->Int) (hc: ∀i,i<B.pairs.length->0<=c i) (k:Nat): ∀n,n<=B.pairs.length->adu B T c k n=B.loadTo T c n k
 | 0,_=>rfl
 |n+1,hn=>by
  have he:=hB.ends n (by omega);have ht:B.spokes=B.towns.length-1:=rfl;unfold adu Bk.loadTo;rw[adW hB hA T c hc k n (by omega),aec hB T (hc n (by omega)) _ k ⟨he.1,he.2.1,he.2.2⟩ fun ha hd=> ?_];have hdb:=pF B hB (B.pone n) (B.ptwo n);refine adV hB T c (by omega) n (by omega) fun i hi h1 h2=> ?_;have d1:=FP (B:=B) (a:=B.pone i) (b:=B.ptwo i) (by omega);have d2:=FP (B:=B) (a:=B.pone n) (b:=B.ptwo n) (by omega);rw[h2] at d1;rw[hd] at d2;exact Ol hA hi (by omega) ⟨d1.1.symm.trans d2.1,d1.2.symm.trans d2.2⟩
theorem aeE {B:Bk} (hA:B.alarm=0) (T:Nat->Int) (most:Bool) (h k:Nat):B.inn T most h k=adu B T (B.call most h) k B.pairs.length:=
 (adW (gY hA).fine hA T _ (fun i _=>(Gj B (gY hA).fine most h i).1) k _ (nR _)).symm
theorem ad2 (a b:Int) (x y:List Int):cmpL (a::x) (b::y)<0↔a<b\/a=b/\cmpL x y<0:=by
 simp only[cmpL,mF];by_cases h1:a<b
 ·simp[h1]
 ·by_cases h2:b<a
  ·have:a≠b:=by omega
   simp[h1,h2,this]
  ·have:a=b:=by omega
   simp[this]
theorem adM: ∀(x y z:List Int),cmpL x y<0->cmpL y z<0->cmpL x z<0
 |_,[],[],_,h=>by simp[cmpL] at h
 |_,_::_,[],_,h=>by simp[cmpL] at h
 | [],[],_::_,h,_=>by simp[cmpL] at h
 |_::_,[],_::_,h,_=>by simp[cmpL] at h
 | [],_::_,_::_,_,_=>by simp[cmpL]
 |a::x,b::y,c::z,h1,h2=>by
  rw[ad2] at *
  rcases h1 with h1 |⟨h1,k1⟩
  ·rcases h2 with h2 |⟨h2,k2⟩
   ·exact .inl (by omega)
   ·exact .inl (by omega)
  ·rcases h2 with h2 |⟨h2,k2⟩
   ·exact .inl (by omega)
   ·exact .inr ⟨by omega,adM x y z k1 k2⟩
theorem adN: ∀l:List Int,cmpL l l=0
 | []=>rfl
 |a::l=>by simp[cmpL,mF,adN l]
theorem ady {x y z:List Int×Int} (h1:qR x y<0) (h2:qR y z<0):qR x z<0:=by
 unfold qR at *;have:=adM x.1 y.1 z.1
 split at h1<;>split at h2<;>split
 all_goals first |exact this h1 h2 |omega
theorem adB (x:List Int×Int): ¬qR x x<0:=by
 unfold qR;rw[if_pos rfl,adN];omega
theorem adH: ∀(l:List (List Int×Int)) (c b:List Int×Int),l.foldl least1 (some c)=some b->(b=c\/(qR b c<0/\b∈l))/\ ∀x∈l,¬qR x b<0
 | [],c,b,h=>⟨.inl (by simpa using h.symm),fun x hx=>(by cases hx)⟩
 |y::l,c,b,h=>by
  rw[List.foldl_cons] at h;unfold least1 at h;dsimp only at h;by_cases hc:qR y c<0
  ·rw[if_pos hc] at h;obtain⟨h1,h2⟩:=adH l y b h
   rcases h1 with e |⟨e,hm⟩
   ·subst e;refine⟨.inr ⟨hc,List.mem_cons_self ..⟩,fun x hx=> ?_⟩
    rcases List.mem_cons.1 hx with e |e
    ·subst e;exact adB _
    ·exact h2 x e
   ·refine⟨.inr ⟨ady e hc,List.mem_cons_of_mem _ hm⟩,fun x hx=> ?_⟩
    rcases List.mem_cons.1 hx with e2 |e2
    ·subst e2;exact fun h=>adB _ (ady h e)
    ·exact h2 x e2
  ·rw[if_neg hc] at h;obtain⟨h1,h2⟩:=adH l c b h;refine⟨h1.imp id fun⟨a,b⟩=>⟨a,List.mem_cons_of_mem _ b⟩,fun x hx=> ?_⟩
   rcases List.mem_cons.1 hx with e2 |e2
   ·subst e2
    rcases h1 with e |⟨e,_⟩
    ·subst e;exact hc
    ·exact fun h=>hc (ady h e)
   ·exact h2 x e2
theorem ad3: ∀{l:List (List Int×Int)} {b:List Int×Int},iC l=some b->b∈l/\ ∀x∈l,¬qR x b<0
 | [],b,h=>by cases h
 |y::l,b,h=>by
  obtain⟨h1,h2⟩:=adH l y b h
  rcases h1 with e |⟨e,hm⟩
  ·subst e;refine⟨List.mem_cons_self .., fun x hx=> ?_⟩
   rcases List.mem_cons.1 hx with e |e
   ·subst e;exact adB _
   ·exact h2 x e
  ·refine⟨List.mem_cons_of_mem _ hm,fun x hx=> ?_⟩
   rcases List.mem_cons.1 hx with e2 |e2
   ·subst e2;exact fun h=>adB _ (ady h e)
   ·exact h2 x e2
theorem adC (may:Int->Bool): ∀(m:Nat) (t x:List Int),x∈moreL may m t↔ ∃d:List Int,x=t++d/\d.length=m/\ ∀(i:Nat) (y:Int),d[i]? =some y->0<=y/\y<=iY may (t.length+i)
 | 0,t,x=>by
  unfold moreL;rw[List.mem_singleton];refine⟨fun h=>⟨[],by simpa using h,rfl,fun i y h=>by simp at h⟩,fun⟨d,h1,h2,_⟩=> ?_⟩;rw[h1,List.length_eq_zero_iff.1 h2,List.append_nil]
 |m+1,t,x=>by
  unfold moreL;rw[List.mem_flatMap];constructor
  ·rintro⟨n,hn,hx⟩;obtain⟨d,h1,h2,h3⟩:=(adC may m _ x).1 hx;refine⟨(n:Int)::d,by rw[h1];simp,by simp[h2],fun i y hy=> ?_⟩
   cases i with
   |zero=>
    have:=List.mem_range.1 hn;simp at hy;simp only[Nat.add_zero];omega
   |succ i=>
    have:=h3 i y (by simpa using hy);rwa [List.length_append,List.length_singleton,Nat.add_assoc,Nat.add_comm 1 i] at this
  ·rintro⟨d,h1,h2,h3⟩
   cases d with
   |nil=>cases h2
   |cons a d=>
    have h0:=h3 0 a rfl;rw[Nat.add_zero] at h0;refine⟨a.toNat,List.mem_range.2 (by omega),(adC may m _ x).2 ⟨d, ?_,by simpa using h2,fun i y hy=> ?_⟩⟩
    ·rw[h1,Int.toNat_of_nonneg h0.1];simp
    ·have:=h3 (i+1) y (by simpa using hy);rwa [List.length_append,List.length_singleton,Nat.add_assoc,Nat.add_comm 1 i]
theorem adO (B:Bk) (may:Int->Bool):aC B may∈oP B may/\ ∀x∈oP B may,¬qR x (aC B may)<0:=by
 have hne:oP B may≠ []:=by
  unfold oP;intro h;exact MP may _ _ (List.map_eq_nil_iff.1 h)
 obtain⟨b,hb⟩:=ZH _ hne;have:aC B may=b:=by unfold aC;rw[hb];rfl
 rw[this];exact ad3 hb
theorem aer {x y:List Int×Int} (h: ¬qR x y<0):y.2<=x.2:=by
 unfold qR at h
 split at h<;>omega
def Dir (B:Bk) (may:Int->Bool) (t:List Int):Prop:=t∈moreL may (B.links.length-B.spokes) (List.replicate B.spokes 0)
theorem ad4 {B:Bk} (hl:B.spokes<=B.links.length) {may:Int->Bool} {t:List Int} (h:Dir B may t):t.length=B.links.length/\(∀x∈t,0<=x/\x<=5)/\(∀k,k<B.spokes->trk t k=0)/\ ∀k,B.spokes<=k->trk t k<=iY may k:=by
 obtain⟨d,h1,h2,h3⟩:=(adC may _ _ t).1 h;have htop: ∀k,iY may k<=5:=fun k=>by unfold iY;split<;>omega
 refine⟨by rw[h1,List.length_append,List.length_replicate,h2];omega,fun x hx=> ?_,fun k hk=> ?_,fun k hk=> ?_⟩
 ·rw[h1] at hx
  rcases List.mem_append.1 hx with e |e
  ·rw[(List.mem_replicate.1 e).2];omega
  ·obtain⟨i,hi,rfl⟩:=List.getElem_of_mem e;have:=h3 i _ (lG hi);have:=htop ((List.replicate B.spokes (0 :Int)).length+i);omega
 ·unfold trk;rw[h1,lD,List.getElem?_append_left (by simpa using hk),List.getElem?_replicate,if_pos hk];rfl
 ·unfold trk;rw[h1,lD,List.getElem?_append_right (by simpa using hk),List.length_replicate]
  cases e:d[k-B.spokes]? with
  |none=>simp
  |some y=>
   have:=h3 _ y e;rw[List.length_replicate,show B.spokes+(k-B.spokes)=k by omega] at this;exact this.2
theorem adP {B:Bk} {may:Int->Bool} {x:List Int×Int}:x∈oP B may↔ ∃t,Dir B may t/\iy B t=x:=List.mem_map
theorem adD {B:Bk} {t:List Int} (k:Nat):trk (jC B t) k=if k<B.spokes then aZ B (trk t) k else trk t k:=by
 unfold jC trk;rw[lD];by_cases h:k<B.spokes
 ·rw[if_pos h,List.getElem?_append_left (by rw[EM];exact h)];unfold ku;rw[List.getElem?_map,List.getElem?_range h];rfl
 ·rw[if_neg h,List.getElem?_append_right (by rw[EM];omega),EM,List.getElem?_drop,lD,show B.spokes+(k-B.spokes)=k by omega]
theorem adQ {B:Bk} (hB:B.Fine) {T T':Nat->Int} (h: ∀k,B.spokes<=k->k<B.links.length->min 5 (T' k)=min 5 (T k)) (most:Bool) (hr:Nat):B.inn T' most hr=B.inn T most hr:=by
 refine BN B T T' _ (fun i hi h0 hk=> ?_) _ (nR _);have hd:=pF B hB (B.pone i) (B.ptwo i);have hc:=Gj B hB most hr i;have:=h (B.direct (B.pone i) (B.ptwo i)).toNat (by omega) (by omega);omega
theorem ad5 {B:Bk} (hB:B.Fine) {T T':Nat->Int} (h: ∀k,B.spokes<=k->k<B.links.length->min 5 (T' k)=min 5 (T k)) (j:Nat):aZ B T' j=aZ B T j:=
 FY B j _ fun _ _=>congrFun (adQ hB h true _) j
theorem ad6 {B:Bk} (hB:B.Fine) {t:List Int}:aQ B (trk (jC B t)) B.hours.toNat 0 1=1:=by
 rw[Og];have hs: ∀m h,B.inn (trk (jC B t)) m h=B.inn (trk t) m h:=fun m h=>adQ hB (fun k h1 h2=>by rw[adD,if_neg (by omega)]) m h;refine⟨rfl,fun h _ hh=> ?_⟩;have key: ∀m,B.lackIn (trk (jC B t)) m h<0:=fun m=>by
  rw[vC,hs];intro j hj;rw[adD,if_pos hj];have h1:=BO B (trk t) j _ h (show h<B.hours.toNat by omega);have h2:=Oq hB (trk t) m h hj;unfold aZ;omega
 exact⟨key false,key true⟩
theorem adI: ∀(x y:List Int),x.length=y.length->(∀k,trk x k<=trk y k)->cmpL x y<=0/\(x≠y->cmpL x y<0)
 | [],[],_,_=>⟨by simp[cmpL],fun h=>absurd rfl h⟩
 | [],_::_,h,_=>by cases h
 |_::_,[],h,_=>by cases h
 |a::x,b::y,h,hk=>by
  have h0:a<=b:=hk 0;obtain⟨h1,h2⟩:=adI x y (by simpa using h) fun k=>hk (k+1);simp only[cmpL,mF];by_cases e:a<b
  ·simp[e]
  ·have e2:a=b:=by omega
   subst e2;simp only[Int.lt_irrefl,if_false,if_true,List.cons.injEq,true_and,ne_eq];exact⟨h1,h2⟩
def tried (B:Bk) (xs:List Int):List Int:=List.replicate B.spokes 0++(xs.drop B.spokes).map fun y=>min 5 y
theorem adR {B:Bk} {xs:List Int} (k:Nat):trk (tried B xs) k=if k<B.spokes then 0 else min 5 (trk xs k):=by
 unfold tried trk;rw[lD,lD];by_cases h:k<B.spokes
 ·rw[if_pos h,List.getElem?_append_left (by simpa using h),List.getElem?_replicate,if_pos h];rfl
 ·rw[if_neg h,List.getElem?_append_right (by simpa using h),List.length_replicate,List.getElem?_map,List.getElem?_drop,show B.spokes+(k-B.spokes)=k by omega]
  cases xs[k]? with
  |none=>rfl
  |some y=>rfl
theorem ad7 {B:Bk} {xs:List Int} (hx:xs.length=B.links.length) (hb:dN xs=false) {may:Int->Bool} (hm: ∀k,B.spokes<=k->may (k:Int)=false->trk xs k=0):Dir B may (tried B xs):=by
 refine(adC may _ _ _).2 ⟨_,rfl,by rw[List.length_map,List.length_drop,hx],fun i y hy=> ?_⟩;rw[List.getElem?_map,List.getElem?_drop] at hy;rw[List.length_replicate];have hp:=lZ hb (B.spokes+i);have hm':=hm (B.spokes+i) (by omega);have e:trk xs (B.spokes+i)=(xs[B.spokes+i]?).getD 0:=by unfold trk;rw[lD]
 rw[e] at hp hm'
 cases e2:xs[B.spokes+i]? with
 |none=>rw[e2] at hy;cases hy
 |some z=>
  rw[e2] at hy hp hm';simp only[Option.map_some,Option.some.injEq,Option.getD_some] at hy hp hm';subst hy;unfold iY
  split
  ·omega
  ·rename_i hf;have:=hm' (Bool.eq_false_iff.2 hf);omega
def adt (B:Bk) (xs:List Int):Int:=fZ B (trk xs) B.links.length
theorem adJ {B:Bk} (hl:B.spokes<=B.links.length) {t:List Int} (ht:t.length=B.links.length):(iy B t).2=adt B (jC B t):=by
 unfold iy adt;dsimp only;rw[MS ht hl]
theorem ad8 {B:Bk} (hB:B.Fine) {xs:List Int} (hx:xs.length=B.links.length) (hb:dN xs=false) (hc:aQ B (trk xs) B.hours.toNat 0 1=1) (k:Nat):trk (jC B (tried B xs)) k<=trk xs k:=by
 have htl:(tried B xs).length=B.links.length:=by
  unfold tried;rw[List.length_append,List.length_replicate,List.length_map,List.length_drop,hx];have:=hB.links.1;omega
 rw[adD];have hp:=lZ hb k;by_cases h:k<B.spokes
 ·rw[if_pos h,ad5 hB (T:=trk xs) fun k h1 _=>by rw[adR,if_neg (by omega)];omega];rw[Og] at hc;exact FW B (trk xs) k hp.1 _ fun h' hh=>(vC B (trk xs) true h').1 (hc.2 h' (Nat.zero_le _) (by omega)).2 k h
 ·rw[if_neg h,adR,if_neg h];omega
theorem ad9 {B:Bk} (hB:B.Fine) {xs:List Int} (hx:xs.length=B.links.length):(tried B xs).length=B.links.length:=by
 unfold tried;rw[List.length_append,List.length_replicate,List.length_map,List.length_drop,hx];have:=hB.links.1;omega
theorem adS {B:Bk} (hG:Good B) {may:Int->Bool} {xs:List Int} (hx:xs.length=B.links.length) (hb:dN xs=false) (hm: ∀k,B.spokes<=k->may (k:Int)=false->trk xs k=0) (hc:aQ B (trk xs) B.hours.toNat 0 1=1): ¬qR (xs,adt B xs) (aC B may)<0:=by
 have hB:=hG.fine;have hd:=ad7 hx hb hm;have htl:=ad9 hB hx;have hle:=ad8 hB hx hb hc;have hmin:=(adO B may).2 _ (adP.2 ⟨_,hd,rfl⟩);have hcost:(iy B (tried B xs)).2<=adt B xs:=by
  rw[adJ hB.links.1 htl];exact abZ hG hle _
 intro h;by_cases e:jC B (tried B xs)=xs
 ·refine hmin ?_;have:iy B (tried B xs)=(xs,adt B xs):=by
   have h2:=adJ hB.links.1 htl;rw[e] at h2;exact Prod.ext e h2
  rwa [this]
 ·refine hmin (ady ?_ h);have hcm:=(adI _ _ (by rw[MS htl hB.links.1,hx]) hle).2 e;unfold qR
  split
  ·exact hcm
  ·dsimp only at *; omega
theorem aea {B:Bk} (hG:Good B) (may:Int->Bool): ∃t,Dir B may t/\t.length=B.links.length/\(∀x∈t,0<=x/\x<=5)/\(aC B may).1=jC B t/\(aC B may).2=adt B (jC B t):=by
 obtain⟨t,hd,he⟩:=adP.1 (adO B may).1;obtain⟨h1,h2,_⟩:=ad4 hG.fine.links.1 hd;exact⟨t,hd,h1,h2,by rw[<-he];rfl,by rw[<-he];exact adJ hG.fine.links.1 h1⟩
theorem adE {xs:List Int} {k:Nat} (h:k<xs.length):xs[k]? =some (trk xs k):=by
 rw[lG h];unfold trk;rw[lD,lG h];rfl
def adw (B:Bk) (k o i:Nat):Prop:=(B.pone i=k+1/\B.ptwo i=o)\/(B.ptwo i=k+1/\B.pone i=o)
open Classical in
noncomputable def met (B:Bk) (k o n:Nat):Int:=if ∃i,i<n/\adw B k o i then 1 else 0
theorem ads (B:Bk) (k o n:Nat):0<=met B k o n/\met B k o n<=1:=by unfold met;split<;>omega
theorem adF (B:Bk) (k o n:Nat):met B k o n<=met B k o (n+1):=by
 unfold met
 split
 ·rename_i h;obtain⟨i,h1,h2⟩:=h;rw[if_pos ⟨i,by omega,h2⟩];omega
 ·split<;>omega
theorem aee {B:Bk} (hB:B.Fine) (hA:B.alarm=0) {k o n:Nat} (hn:n<B.pairs.length) (h:adw B k o n):met B k o n=0/\met B k o (n+1)=1:=by
 have h1: ¬ ∃i,i<n/\adw B k o i:=by
  rintro⟨i,hi,h2⟩;have e1:=hB.ends n hn;have e2:=hB.ends i (by omega);refine Ol hA hi hn ?_;unfold adw at h h2;omega
 have h3: ∃i,i<n+1/\adw B k o i:=⟨n,by omega,h⟩;unfold met;rw[if_neg h1,if_pos h3];exact⟨rfl,rfl⟩
theorem adY {B:Bk} (hB:B.Fine) (hA:B.alarm=0) {T c:Nat->Int} (hT: ∀k,0<=T k) (hc: ∀i,i<B.pairs.length->0<=c i/\c i<=5) {k:Nat} (hk:k<B.spokes): ∀n,n<=B.pairs.length->adu B T c k n<=5*((if k+1=0 then 0 else met B k 0 n)+(if k+1=1 then 0 else met B k 1 n)+(if k+1=2 then 0 else met B k 2 n)+if k+1=3 then 0 else met B k 3 n)
 | 0,_=>by
  unfold adu;have h0:=ads B k 0 0;have h1:=ads B k 1 0;have h2:=ads B k 2 0;have h3:=ads B k 3 0
  split<;>split<;>split<;>split<;>omega
 |n+1,hn=>by
  have ih:=adY hB hA hT hc hk n (by omega);have he:=hB.ends n (by omega);have hcn:=hc n (by omega);have ht:=hB.towns;have hs:B.spokes=B.towns.length-1:=rfl;have hd:=pF B hB (B.pone n) (B.ptwo n);have hf:0<=adr B T (B.pone n) (B.ptwo n):=by unfold adr;split;exact hT _;omega
  have m0:=adF B k 0 n;have m1:=adF B k 1 n;have m2:=adF B k 2 n;have m3:=adF B k 3 n;have hinc:incr B T (c n) (B.pone n) (B.ptwo n) k<=if B.pone n=k+1\/B.ptwo n=k+1 then 5 else 0:=by
   unfold incr;by_cases ha:B.pone n=0
   ·rw[if_pos ha];split<;>split<;>omega
   ·rw[if_neg ha,if_neg (show ¬B.direct (B.pone n) (B.ptwo n)=k by omega)]
    split<;>split<;>omega
  unfold adu;by_cases hm:B.pone n=k+1\/B.ptwo n=k+1
  ·rw[if_pos hm] at hinc;obtain⟨o,ho,ho2,ho3⟩: ∃o:Nat,adw B k o n/\o<4/\o≠k+1:=by
    rcases hm with e |e
    ·exact⟨(B.ptwo n).toNat,.inl ⟨e,by omega⟩,by omega,by omega⟩
    ·exact⟨(B.pone n).toNat,.inr ⟨e,by omega⟩,by omega,by omega⟩
   have hnew:=aee hB hA (show n<B.pairs.length by omega) ho;obtain rfl |rfl |rfl |rfl:o=0\/o=1\/o=2\/o=3:=by omega
   all_goals
    simp only[hnew.1,hnew.2] at *
    split<;>split<;>split<;>split<;>simp_all<;>omega
  ·rw[if_neg hm] at hinc
   split<;>split<;>split<;>split<;>simp_all<;>omega
theorem aef {B:Bk} (hB:B.Fine) (hA:B.alarm=0) {T:Nat->Int} (hT: ∀k,0<=T k) (most:Bool) (h:Nat) {k:Nat} (hk:k<B.spokes):B.inn T most h k<=15:=by
 have h1:=adY hB hA hT (c:=B.call most h) (fun i _=>Gj B hB most h i) hk _ (nR _);rw[adW hB hA T _ (fun i _=>(Gj B hB most h i).1) k _ (nR _)] at h1;have h0:=ads B k 0 B.pairs.length;have h2:=ads B k 1 B.pairs.length;have h3:=ads B k 2 B.pairs.length;have h4:=ads B k 3 B.pairs.length;have ht:=hB.towns;have hs:B.spokes=B.towns.length-1:=rfl;unfold Bk.inn Bk.load;have:k=0\/k=1\/k=2:=by omega
 rcases this with rfl |rfl |rfl<;>simp at h1<;>omega
theorem aeg {B:Bk} (hB:B.Fine) (hA:B.alarm=0) {t:List Int} (ht: ∀x∈t,0<=x/\x<=5) (k:Nat):0<=trk (jC B t) k/\trk (jC B t) k<=15:=by
 have h0: ∀k,0<=trk t k/\trk t k<=5:=MV ht (by decide);rw[adD]
 split
 ·rename_i hk;exact⟨rM B _ k _,FW B _ k (by omega) _ fun h _=>aef hB hA (fun k=>(h0 k).1) true h hk⟩
 ·have:=h0 k;omega
theorem adZ {xs:List Int} (h: ∀k,k<xs.length->0<=trk xs k/\trk xs k<=20):dN xs=false:=by
 unfold dN;rw[List.any_eq_false];intro x hx;obtain⟨i,hi,rfl⟩:=List.getElem_of_mem hx;have h1:=h i hi;have h2:=adE hi;rw[lG hi] at h2;simp only[Option.some.injEq] at h2;rw[<-h2] at h1;simp[btw];omega
theorem adK {B:Bk} (hA:B.alarm=0) {may:Int->Bool}:aH B (aC B may).1 true=0/\(∀k,btw (trk (aC B may).1 k) 0 20=true)/\aQ B (trk (aC B may).1) B.hours.toNat 0 1=1/\(aC B may).2=fZ B (trk (aC B may).1) B.links.length:=by
 have hG:=gY hA;have hB:=hG.fine;obtain⟨t,hd,hl,ht,e1,e2⟩:=aea hG may;rw[e1,e2];have hb:=aeg hB hA ht;have hfl:=MS hl hB.links.1;refine⟨vG hA hfl (adZ fun k _=>by have:=hb k;omega),fun k=> ?_,ad6 hB,rfl⟩;have:=hb k;simp[btw];omega
structure Alike (A B:Bk):Prop where
 hours:B.hours=A.hours
 towns:B.towns=A.towns
 links:B.links=A.links
 len:B.pairs.length=A.pairs.length
 one: ∀i,B.pone i=A.pone i
 two: ∀i,B.ptwo i=A.ptwo i
theorem Alike.direct {A B:Bk} (s:Alike A B) (a b:Int):B.direct a b=A.direct a b:=by
 have h1: ∀n i,B.directFrom a b n i=A.directFrom a b n i:=by
  intro n
  induction n with
  |zero=>intro i;rfl
  |succ n ih=>
   intro i;unfold Bk.directFrom;rw[show B.one i=A.one i by unfold Bk.one;rw[s.links],show B.two i=A.two i by unfold Bk.two;rw[s.links],ih]
 unfold Bk.direct;rw[h1,s.links,show B.spokes=A.spokes by unfold Bk.spokes;rw[s.towns]]
theorem Alike.spokes {A B:Bk} (s:Alike A B):B.spokes=A.spokes:=by unfold Bk.spokes;rw[s.towns]
end Go.Proofs.YtaikibfkggglgaaDoor
