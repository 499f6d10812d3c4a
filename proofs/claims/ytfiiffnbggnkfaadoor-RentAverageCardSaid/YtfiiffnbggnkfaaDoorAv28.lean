/- A part of the proof of a law; no conditions of its own. -/
import Derived.Laws.AppendOwn
import Derived.Test.YtfiiffnbggnkfaaDoorAv27
open Go.RowKit renaming Below→bX
open Go renaming Value→vL, World→wD
open Go.IntKind renaming i64→qi
open Go.Value renaming int→iN, slice→sL, pointer→pN
open Go.Obj renaming cells→cL
set_option maxRecDepth 100000
open Nat renaming le_refl→nR
open Go.Lib renaming hid→lH
open Go.RowKit.Below renaming refl→bR
open List renaming getElem?_eq_getElem→lG
open Array renaming getElem?_eq_some_iff→aS
open List renaming getElem?_eq_some_iff→lS
open Go.World renaming block_lt_of_cell?→wBk
open Go.World renaming cell?_setCell_other→wO
open Go.World renaming cell?_setCell_far→wF
set_option maxHeartbeats 4000000
namespace Go.Proofs.YtfiiffnbggnkfaaDoor
open Go.RowKit Go.Tp
section
variable {P:Program} {ops:Array Oper} {Q:Exit->Act->wD->Prop} {z:Nat} {S:wD->Prop}
def aji (ops:Array Oper):Nat->Nat->Nat->Bool
 | 0,_,_=>false
 |f+1,j,i=>((ops[j]?).map fun o=>o.after.any fun e=>Region.binds .any e&&(e.on==i||aji ops f e.on i)).getD false
def Shut (ops:Array Oper) (listed:Array Bool):Prop:= ∀(j:Nat) (o:Oper),ops[j]? =some o->listed.getD j false=true-> ∀e∈o.after,Region.binds .any e=true->listed.getD e.on false=true
def alz (ops:Array Oper) (listed:Array Bool):Bool:=(List.range ops.size).all fun j=> !listed.getD j false||((ops[j]?).map fun o=>o.after.all fun e=> !Region.binds .any e||listed.getD e.on false).getD true
theorem ajm {ops:Array Oper} {listed:Array Bool} (h:alz ops listed=true):Shut ops listed:=fun j o hj hl e he hb=>by
 unfold alz at h;rw[List.all_eq_true] at h;have h1:=h j (List.mem_range.2 (aS.1 hj).1);rw[hj,hl] at h1;simp only[Bool.not_true,Bool.false_or,Option.map_some,Option.getD_some,Array.all_eq_true] at h1;obtain⟨k,hk,rfl⟩:=Array.getElem_of_mem he;have h2:=h1 k hk;rw[hb] at h2;simpa using h2
theorem ajk {ops:Array Oper} {listed:Array Bool} (hs:Shut ops listed): ∀(f j i:Nat),(∀o,ops[j]? =some o-> ∀e∈o.after,Region.binds .any e=true->listed.getD e.on false=true)->aji ops f j i=true->listed.getD i false=true
 | 0,_,_,_,h=>by cases h
 |f+1,j,i,hj,h=>by
  unfold aji at h
  cases ho:ops[j]? with
  |none=>rw[ho] at h;cases h
  |some o=>
   rw[ho] at h;simp only[Option.map_some,Option.getD_some,Array.any_eq_true,Bool.and_eq_true,Bool.or_eq_true,beq_iff_eq] at h;obtain⟨k,hk,hb,h1⟩:=h;have hl:=hj o ho _ (Array.getElem_mem hk) hb
   rcases h1 with h1 |h1
   ·rw[<-h1];exact hl
   ·exact ajk hs f _ i (fun o2 ho2 e he hb2=>hs _ o2 ho2 hl e he hb2) h1
theorem ajl {listed:Array Bool} {j k:Nat} (h:listed.getD k false=true):(listed.setIfInBounds j true).getD k false=true:=by
 by_cases c:j=k
 ·subst c
  rcases Nat.lt_or_ge j listed.size with h' |h'
  ·simp[h']
  ·simp[Array.getElem?_eq_none h'] at h
 ·rcases Nat.lt_or_ge k listed.size with h' |h'
  ·simp[h',c] at h ⊢; exact h
  ·simp[Array.getElem?_eq_none h'] at h
theorem ajn {ops:Array Oper} {listed:Array Bool} (hs:Shut ops listed) {j:Nat} (hj: ∀o,ops[j]? =some o-> ∀e∈o.after,Region.binds .any e=true->listed.getD e.on false=true):Shut ops (listed.setIfInBounds j true):=fun k o hk hl e he hb=>by
 by_cases c:j=k
 ·subst c;exact ajl (hj o hk e he hb)
 ·refine ajl (hs k o hk ?_ e he hb)
  rcases Nat.lt_or_ge k listed.size with h' |h'
  ·simp[h',c] at hl ⊢; exact hl
  ·have e2:(listed.setIfInBounds j true).getD k false=false:=by
    simp only[Array.getD_eq_getD_getElem?];rw[Array.getElem?_eq_none (by simpa using h')];rfl
   rw[e2] at hl
   cases hl
def ah6 (P:Program) (K:vL->wD->Prop):Result Next->Prop
 | .ok (.value v) w'=>K v w'
 | .ok .skip w'=>K undef w'
 | .ok (.enter f args) w'=>Calls P f args w' fun e w''=> ∃v,e= .returned v/\K v w''
 |_=>False
def ahO (P:Program) (o:Oper) (a:Act) (w:wD) (K:vL->wD->Prop):Prop:=ah6 P K ((execOp a.eval o).run P w)
theorem ahO.mono {o:Oper} {a:Act} {w:wD} {K K':vL->wD->Prop} (h:ahO P o a w K) (hk: ∀v w',K v w'->K' v w'):ahO P o a w K':=by
 unfold ahO at *;generalize (execOp a.eval o).run P w=r at *
 cases r with
 |ok n w'=>
  cases n<;>simp only[ah6] at h ⊢ <;>
   first
    |exact hk _ _ h
    |exact h.mono fun e w'' ⟨v,e1,k⟩=>⟨v,e1,hk _ _ k⟩
 |halt x w'=>exact h
theorem ahO.wp {o:Oper} {a:Act} {w:wD} {K:Act->wD->Prop} (h:ahO P o a w fun v w'=>K (a.put o.dst v) w'):o.wp P a w K Q:=by
 unfold ahO at h;unfold Oper.wp;generalize (execOp a.eval o).run P w=r at *
 cases r with
 |ok n w'=>
  cases n<;>simp only[ah6,Oper.upon] at h ⊢ <;>
   first
    |exact h
    | (refine h.mono ?_;rintro e w'' ⟨v,rfl,k⟩;exact k)
 |halt x w'=>exact h.elim
def LaS (P:Program) (ops:Array Oper) (Q:Exit->Act->wD->Prop) (z:Nat) (S:wD->Prop):Nat->Array Bool->Act->wD->Prop
  | 0,listed,a,w=>Region.ready .any ops listed= []/\Q .normal a w
  |n+1,listed,a,w=>Region.ready .any ops listed≠ []/\ ∀i∈Region.ready .any ops listed,∃o,ops[i]? =some o/\
      ((Region.wanted o (yielded ops a.tmps)=false/\LaS P ops Q z S n (listed.setIfInBounds i true) (a.put o.dst undef) w)\/
       (Region.wanted o (yielded ops a.tmps)=true/\ahO P o a w fun v w'=>(i≠z/\i≠z+1->S w')/\LaS P ops Q z S n (listed.setIfInBounds i true) (a.put o.dst v) w'))
theorem ah7: ∀(n:Nat) (listed:Array Bool) (a:Act) (w:wD),LaS P ops Q z S n listed a w->wpAny P .any ops Q n listed a w
  | 0,_,_,_,h=>h
  |n+1,_,_,_,h=>⟨fun e=>absurd e h.1,fun i hi=>by
      obtain⟨o,ho,hh⟩:=h.2 i hi;unfold Go.wpOp;simp only[ho]
      rcases hh with ⟨hw,h2⟩ |⟨hw,h2⟩
      · simp only[hw,Bool.false_eq_true,if_false];exact ah7 n _ _ _ h2
      · simp only[hw,if_true]
        exact .inl (ahO.wp (h2.mono fun v w' k=>ah7 n _ _ _ k.2))⟩
theorem aiJ {i:Nat} {oi:Oper} {v:vL} (hi:ops[i]? =some oi) (hsel: ∀(j:Nat) (o:Oper) cs b,ops[j]? =some o->o.op≠ .select cs b) (hz:ops.size<=z\/ ∃f,aji ops f z i=true) (hz2:ops.size<=z+1\/ ∃f,aji ops f (z+1) i=true):
    ∀(n:Nat) (listed:Array Bool) (a:Act) (w:wD),Shut ops listed->
      (∀j oj,ops[j]? =some oj->j≠i->listed.getD j true=false->(∀e∈oj.after,Region.binds .any e=true->e.on≠i)->oi.apart ops oj=true)->
      i∈Region.ready .any ops listed->S w->Region.wanted oi (yielded ops a.tmps)=true->(∀u,S u->(execOp a.eval oi).run P u= .ok (.value v) u)->LaS P ops Q z S n (listed.setIfInBounds i true) (a.put oi.dst v) w->LaS P ops Q z S (n+1) listed a w:=by
  intro n
  induction n with
  |zero=>
    intro listed a w _ _ hr hS hw hy H;refine⟨fun h=>(by rw[h] at hr;cases hr),fun j hj=> ?_⟩;by_cases hji:j=i
    · subst hji
      refine⟨oi,hi,.inr ⟨hw, ?_⟩⟩;unfold ahO;rw[hy w hS];exact⟨fun _=>hS,H⟩
    · have h1:=ready_mono hj hji
      rw[H.1] at h1
      cases h1
  |succ n ih=>
    intro listed a w hsh hfree hr hS hw hy H;refine⟨fun h=>(by rw[h] at hr;cases hr),fun j hj=> ?_⟩;by_cases hji:j=i
    · subst hji
      refine⟨oi,hi,.inr ⟨hw, ?_⟩⟩;unfold ahO;rw[hy w hS];exact⟨fun _=>hS,H⟩
    · obtain⟨oj',hoj',H2⟩:=H.2 j (ready_mono hj hji)
      obtain⟨hjun,oj,hoj,hall⟩:=mem_ready.1 hj;have e1:oj'=oj:=Option.some.inj (hoj'.symm.trans hoj);rw[e1] at H2;have hun: ∀k,k=i->listed.getD k false=false:=fun k hk=>by
        subst hk;have h0:=(mem_ready.1 hr).1
        rcases Nat.lt_or_ge k listed.size with h' |h'
        · simp[h'] at h0 ⊢; exact h0
        · simp[Array.getElem?_eq_none h']
      have hnot: ∀e∈oj.after,Region.binds .any e=true->e.on≠i:=fun e he hb heq=>by
        have h1:=hall e he hb;rw[hun _ heq] at h1
        cases h1
      have hno: ∀y,(ops.size<=y\/ ∃f,aji ops f y i=true)->j≠y:=fun y hy e=>by
        subst e;have hjl:j<ops.size:=(aS.1 hoj).1
        rcases hy with hy |⟨f,hy⟩
        · omega
        · have:=ajk hsh f j i (fun o ho e he hb=>by rw[hoj] at ho;cases ho;exact hall e he hb) hy
          rw[hun i rfl] at this
          cases this
      have hjz:j≠z/\j≠z+1:=⟨hno z hz,hno (z+1) hz2⟩;obtain⟨h1,h2,h3⟩:=Oper.apart_spec (hfree j oj hoj hji hjun hnot);have hwj:Region.wanted oj (yielded ops (a.put oi.dst v).tmps)=Region.wanted oj (yielded ops a.tmps):=wanted_put oj a oi.dst v h1;have hej:execOp (a.put oi.dst v).eval oj=execOp a.eval oj:=execOp_put oj (fun cs b=>hsel j oj cs b hoj) a oi.dst v h1;have hfree': ∀k ok,ops[k]? =some ok->k≠i->(listed.setIfInBounds j true).getD k true=false->
          (∀e∈ok.after,Region.binds .any e=true->e.on≠i)->oi.apart ops ok=true:=fun k ok hk hki hun' hno=>by
        refine hfree k ok hk hki ?_ hno;by_cases hjk:j=k
        · subst hjk;exact hjun
        · rw[getD_set_ne true hjk] at hun';exact hun'
      have key: ∀(vj:vL) (w':wD),S w'->LaS P ops Q z S n ((listed.setIfInBounds i true).setIfInBounds j true) ((a.put oi.dst v).put oj.dst vj) w'->LaS P ops Q z S (n+1) (listed.setIfInBounds j true) (a.put oj.dst vj) w':=fun vj w' hS' k=>by
        refine ih (listed.setIfInBounds j true) (a.put oj.dst vj) w' (ajn hsh fun o ho e he hb=>by rw[hoj] at ho;cases ho;exact hall e he hb) hfree' (ready_mono hr (Ne.symm hji)) hS' ?_ (fun u hu=> ?_) ?_
        · rw[wanted_put oi a oj.dst vj h3];exact hw
        · rw[execOp_put oi (fun cs b=>hsel i oi cs b hi) a oj.dst vj h3];exact hy u hu
        · rw[Array.setIfInBounds_comm _ _ hji,<-Act.put_comm a v vj h2]
          exact k
      refine⟨oj,hoj, ?_⟩
      rcases H2 with ⟨hw2,k⟩ |⟨hw2,k⟩
      · exact .inl ⟨hwj.symm.trans hw2,key _ _ hS k⟩
      · refine .inr ⟨hwj.symm.trans hw2, ?_⟩
        unfold ahO at k ⊢;rw[hej] at k;exact ahO.mono (o:=oj) (a:=a) (w:=w) k fun vj w' hk=>⟨hk.1,key vj w' (hk.1 hjz) hk.2⟩
theorem ahN (i:Nat) {o:Oper} (v:vL) {n:Nat} {listed:Array Bool} {a:Act} {w:wD} (hS:S w) (h:LaS P ops Q z S n (listed.setIfInBounds i true) (a.put o.dst v) w) (ho:ops[i]? =some o:=by rfl) (hw:Region.wanted o (yielded ops a.tmps)=true:=by rfl) (hr: ∀u,S u->(execOp a.eval o).run P u= .ok (.value v) u)
  (hs:Region.noSelect ops=true:=by kernel_rfl) (hf:Region.free .any ops listed i=true:=by kernel_rfl) (hc:(Region.ready .any ops listed).contains i=true:=by kernel_rfl) (hsh:alz ops listed=true:=by kernel_rfl) (hz:ops.size<=z\/ ∃f,aji ops f z i=true:=by first | (refine .inl ?_;decide) | (refine .inr ⟨1, ?_⟩;decide+kernel) | (refine .inr ⟨2, ?_⟩;decide+kernel) | (refine .inr ⟨3, ?_⟩;decide+kernel) | (refine .inr ⟨6, ?_⟩;decide+kernel)) (hz2:ops.size<=z+1\/ ∃f,aji ops f (z+1) i=true:=by first | (refine .inl ?_;decide) | (refine .inr ⟨1, ?_⟩;decide+kernel) | (refine .inr ⟨2, ?_⟩;decide+kernel) | (refine .inr ⟨3, ?_⟩;decide+kernel) | (refine .inr ⟨6, ?_⟩;decide+kernel)):LaS P ops Q z S (n+1) listed a w:=
 aiJ ho (Region.noSelect_spec hs) hz hz2 n listed a w (ajm hsh) (Region.free_spec ho hf) (by simpa using hc) hS hw hr h
theorem ahQ (i:Nat) {o:Oper} {n:Nat} {listed:Array Bool} {a:Act} {w:wD} (ho:ops[i]? =some o:=by rfl) (hw:Region.wanted o (yielded ops a.tmps)=true:=by rfl) (hc:Region.ready .any ops listed= [i]:=by kernel_rfl) (h:ahO P o a w fun v w'=>(i≠z/\i≠z+1->S w')/\LaS P ops Q z S n (listed.setIfInBounds i true) (a.put o.dst v) w'):LaS P ops Q z S (n+1) listed a w:=
 ⟨by rw[hc];exact List.cons_ne_nil _ _,fun j hj=>by
  rw[hc,List.mem_singleton] at hj;subst hj;exact⟨o,ho,.inr ⟨hw,h⟩⟩⟩
theorem aif {id:Nat} {a:Act} {w:wD} (z n:Nat) (S:wD->Prop) (hm:P.follows .mixedOrders=true) (h:LaS P ops Q z S n (Array.replicate n false) a w.drew) (hn:ops.size=n:=by rfl):(Code.region id ops true).wp P Q a w:=
 wp_region_any hm (by rw[hn];exact ah7 _ _ _ _ h)
theorem ahZ {listed:Array Bool} {a:Act} {w:wD} (h:Q .normal a w) (hr:Region.ready .any ops listed= []:=by kernel_rfl):LaS P ops Q z S 0 listed a w:=⟨hr,h⟩
theorem ah0 {o:Oper} {a:Act} {w w':wD} {v:vL} {K:vL->wD->Prop} (hr:(execOp a.eval o).run P w= .ok (.value v) w') (h:K v w'):ahO P o a w K:=by unfold ahO;rw[hr];exact h
theorem ah1 {o:Oper} {a:Act} {w w':wD} {K:vL->wD->Prop} (hr:(execOp a.eval o).run P w= .ok .skip w') (h:K undef w'):ahO P o a w K:=by unfold ahO;rw[hr];exact h
theorem ahW {o:Oper} {a:Act} {w w':wD} {f:FuncId} {args:Array vL} {K:vL->wD->Prop} (hr:(execOp a.eval o).run P w= .ok (.enter f args) w') (h:Calls P f args w' fun e w''=> ∃v,e= .returned v/\K v w''):ahO P o a w K:=by unfold ahO;rw[hr];exact h
theorem ajp {o:Oper} {rest:List Oper} {a:Act} {w:wD} (hw:Region.wanted o (yielded ops a.tmps)=true:=by rfl) (h:ahO P o a w fun v w'=>wpList P ops Q rest (a.put o.dst v) w'):wpList P ops Q (o::rest) a w:=by
 unfold wpList;rw[if_pos hw];exact .inl h.wp
theorem aii {o:Oper} {a:Act} {w:wD} {K:vL->wD->Prop} (s x:Operand) (t:TypeId)
  (ho:o.op= .call {callee:= .builtin .append,args:= #[s,x],argTypes:= #[t,t]})
  (base:Nat) (e:TypeId) (i:TypeInfo) (z:vL) (size bytes:Nat) (ht:P.underlying t=some (.slice e)) (hi:P.info? e=some i) (hz:i.zero=some z)
  (hsize:i.size=size) (hby:i.bytes=bytes) (hzs:z.cells.size=size) (hsz:0<size)
  (v:vL) (n:Nat) (xs:List vL) (hs:a.eval s=v) (hown:w.ownsRow base e size v n xs)
  (ad:Addr) (m c:Nat) (news:List vL) (hx:a.eval x= sL (some ad) m c) (hl:news.length=m*size) (hnews: ∀j u,news[j]? =some u->w.cell? (ad.add j)=some u) (h1: ∀u∈news,u.oneCell'=true)
  (h63:n+m<=maxLen) (hbytes:(n+m)*bytes<=140737488355328) (hbase:base<=w.heap.size)
  (h: ∀v' w',w'.ownsRow base e size v' (n+m) (xs++news)->w.grownBy w' v.ownBlock->(v'= sL none 0 0↔v= sL none 0 0/\m=0)->K v' w'):ahO P o a w K:=by
 obtain⟨v',w',hr,h2,h3,h4⟩:=run_append_own (P:=P) w base t o.type e i z size bytes ht hi hz hsize hby hzs hsz v n xs hown ad m c news hl hnews h1 h63 hbytes hbase;unfold ahO execOp;simp only[ho,resolve,invoke,builtin,Sem.run_bind,Sem.run_pure,Result.andThen_ok,List.map_toArray,List.map_cons,List.map_nil,hs,hx,hr];exact h v' w' h2 h3 h4
end
end Go.Proofs.YtfiiffnbggnkfaaDoor
namespace Go.Proofs.YtfiiffnbggnkfaaDoor
open Go.RowKit Go.Rent Go.Tp Go.Conc
theorem aij {w:wD} {n:Nat} {a b c d:vL} (c0:w.cell? ⟨n,0,none⟩=some a) (c1:w.cell? ⟨n,1,none⟩=some b) (c2:w.cell? ⟨n,2,none⟩=some c) (c3:w.cell? ⟨n,3,none⟩=some d)
  (f0:w.frozen? ⟨n,0,none⟩=false) (f1:w.frozen? ⟨n,1,none⟩=false) (f2:w.frozen? ⟨n,2,none⟩=false) (f3:w.frozen? ⟨n,3,none⟩=false):dW w n a b c d:=⟨wBk w _ c0,c0,c1,c2,c3,f0,f1,f2,f3⟩
theorem ahT (w:wD) (t:TypeId) (a0 a1 a2 a3:vL):dW (w.alloc (cL #[a0,a1,a2,a3] t)) w.heap.size a0 a1 a2 a3:=⟨by simp,by go_simp,by go_simp,by go_simp,by go_simp,by go_simp,by go_simp,by go_simp,by go_simp⟩
theorem aik {n m b:Nat} {w w':wD} (h:bX n w w') (hb:n<=b) (hm:m=n) (x0 x1 x2 x3:vL):bX m w ((((w'.setCell ⟨b,0,none⟩ x0).setCell ⟨b,1,none⟩ x1).setCell ⟨b,2,none⟩ x2).setCell ⟨b,3,none⟩ x3):=by
 subst hm;exact(((h.setCell (p:=⟨b,0,none⟩) hb _).setCell (p:=⟨b,1,none⟩) hb _).setCell (p:=⟨b,2,none⟩) hb _).setCell (p:=⟨b,3,none⟩) hb _
abbrev ahS:=Int×Int×List (Int×Int)
def pr3 (p:Pr):ahS:=(p.one,p.two,p.calls)
structure RwV (w:wD) (l:List ahS) (vs:List (Int×Int×vL)):Prop where
 len:vs.length=l.length
 get: ∀(i:Nat) (x:ahS),l[i]? =some x-> ∃sa sc,vs[i]? =some (x.1,x.2.1,sL sa x.2.2.length sc)/\SlB w sa x.2.2/\x.2.2.length<=1000000
section
variable {w w':wD} {l l':List ahS} {vs vs':List (Int×Int×vL)}
theorem RwV.nil:RwV w [] []:=⟨rfl,fun i x h=>by cases h⟩
theorem RwV.below (h:RwV w l vs) {n:Nat} (hb:bX n w w') (hn:w.heap.size<=n):RwV w' l vs:=⟨h.len,fun i x hx=>by
 obtain⟨sa,sc,h1,h2,h3⟩:=h.get i x hx;exact⟨sa,sc,h1,h2.below hb hn,h3⟩⟩
theorem RwV.append (h:RwV w l vs) (h':RwV w l' vs'):RwV w (l++l') (vs++vs'):=⟨by rw[List.length_append,List.length_append,h.len,h'.len],fun i x hx=>by
 by_cases c:i<l.length
 ·rw[List.getElem?_append_left c] at hx;obtain⟨sa,sc,h1,h2,h3⟩:=h.get i x hx;exact⟨sa,sc,by rw[List.getElem?_append_left (by rw[h.len];exact c)];exact h1,h2,h3⟩
 ·rw[List.getElem?_append_right (by omega)] at hx;obtain⟨sa,sc,h1,h2,h3⟩:=h'.get _ x hx;exact⟨sa,sc,by rw[List.getElem?_append_right (by rw[h.len];omega),h.len];exact h1,h2,h3⟩⟩
theorem RwV.take (h:RwV w l vs) (k:Nat):RwV w (l.take k) (vs.take k):=⟨by rw[List.length_take,List.length_take,h.len],fun i x hx=>by
 rw[List.getElem?_take] at hx
 split at hx
 ·rename_i c;obtain⟨sa,sc,h1,h2,h3⟩:=h.get i x hx;exact⟨sa,sc,by rw[List.getElem?_take,if_pos c];exact h1,h2,h3⟩
 ·cases hx⟩
theorem RwV.drop (h:RwV w l vs) (k:Nat):RwV w (l.drop k) (vs.drop k):=⟨by rw[List.length_drop,List.length_drop,h.len],fun i x hx=>by
 rw[List.getElem?_drop] at hx;obtain⟨sa,sc,h1,h2,h3⟩:=h.get _ x hx;exact⟨sa,sc,by rw[List.getElem?_drop];exact h1,h2,h3⟩⟩
theorem RwV.one (h:RwV w l vs): ∀u∈tri vs,u.oneCell'=true:=EY _ fun x hx=>by
 obtain⟨i,hi,rfl⟩:=List.getElem_of_mem hx;obtain⟨sa,sc,h1,_,_⟩:=h.get i _ (lG (by rw[<-h.len];exact hi));rw[lG hi] at h1;rw[Option.some.inj h1];rfl
theorem ah2: ∀(a b:List (Int×Int×vL)),tri (a++b)=tri a++tri b
 | [],_=>rfl
 |x::a,b=>by simp[tri,ah2 a b]
theorem aiL (k:Nat): ∀(a:List (Int×Int×vL)),k<=a.length-> ∀j,(tri (a.drop k))[j]? =(tri a)[k*3+j]? :=by
 intro a hk j;have:tri a=tri (a.take k)++tri (a.drop k):=by rw[<-ah2,List.take_append_drop]
 rw[this,List.getElem?_append_right (by rw[ES,List.length_take];omega),ES,List.length_take]
 congr 1
 omega
theorem aiM (k:Nat) (a:List (Int×Int×vL)) {j:Nat} {u:vL} (h:(tri (a.take k))[j]? =some u):(tri a)[j]? =some u:=by
 have:tri a=tri (a.take k)++tri (a.drop k):=by rw[<-ah2,List.take_append_drop]
 rw[this,List.getElem?_append_left (lS.1 h).1];exact h
end
def ahP (w:wD) (b o:Nat) (vs:List (Int×Int×vL)):Prop:= ∀(j:Nat) (u:vL),(tri vs)[j]? =some u->w.cell? ((⟨b,o,none⟩:Addr).add j)=some u
theorem ahP.below {w w':wD} {b o n:Nat} {vs:List (Int×Int×vL)} (h:ahP w b o vs) (hb:bX n w w') (hn:w.heap.size<=n):ahP w' b o vs:=fun j u hu=>by
 have:=h j u hu;rw[BH] at this ⊢;exact aoF hb this hn
theorem ahP.take {w:wD} {b o:Nat} {vs:List (Int×Int×vL)} (h:ahP w b o vs) (k:Nat):ahP w b o (vs.take k):=fun j u hu=>h j u (aiM k vs hu)
theorem ahP.drop {w:wD} {b o:Nat} {vs:List (Int×Int×vL)} (h:ahP w b o vs) {k:Nat} (hk:k<=vs.length):ahP w b (o+k*3) (vs.drop k):=fun j u hu=>by
 rw[aiL k vs hk] at hu;have:=h _ u hu;rw[BH] at this ⊢;rwa [Nat.add_assoc]
theorem aiN {w:wD} {b o:Nat} {l:List ahS} (h: ∀(i:Nat) (x:ahS),l[i]? =some x-> ∃sa sc,w.cell? ⟨b,o+i*3,none⟩=some (iN qi x.1)/\w.cell? ⟨b,o+i*3+1,none⟩=some (iN qi x.2.1)/\w.cell? ⟨b,o+i*3+2,none⟩=some (sL sa x.2.2.length sc)/\SlB w sa x.2.2/\x.2.2.length<=1000000):
  ∃vs,RwV w l vs/\ahP w b o vs:=by
 have hv: ∀i,i<l.length->((List.range l.length).map fun i=>((((l[i]?).map (·.1)).getD 0,((l[i]?).map (·.2.1)).getD 0,(w.cell? ⟨b,o+i*3+2,none⟩).getD undef):Int×Int×vL))[i]? =some (((l[i]?).map (·.1)).getD 0,((l[i]?).map (·.2.1)).getD 0,(w.cell? ⟨b,o+i*3+2,none⟩).getD undef):=fun i hi=>by
  rw[List.getElem?_map,List.getElem?_range hi];rfl
 refine⟨(List.range l.length).map fun i=>(((l[i]?).map (·.1)).getD 0,((l[i]?).map (·.2.1)).getD 0,(w.cell? ⟨b,o+i*3+2,none⟩).getD undef),⟨by simp,fun i x hx=> ?_⟩,fun j u hu=> ?_⟩
 ·obtain⟨sa,sc,_,_,h3,h4,h5⟩:=h i x hx;refine⟨sa,sc, ?_,h4,h5⟩;rw[hv i (lS.1 hx).1,hx,h3];rfl
 ·obtain⟨i,y,hy,hh⟩:=EU _ j u hu;have hi:i<l.length:=by have:=(lS.1 hy).1;simpa using this
  rw[hv i hi] at hy
  cases hy
  obtain⟨sa,sc,h1,h2,h3,_⟩:=h i _ (lG hi);rw[lG hi] at hh;simp only[Option.map_some,Option.getD_some,h3] at hh;rw[BH]
  rcases hh with ⟨rfl,rfl⟩ |⟨rfl,rfl⟩ |⟨rfl,rfl⟩
  ·exact h1
  ·rw[<-Nat.add_assoc];exact h2
  ·rw[<-Nat.add_assoc];exact h3
theorem ajN {w:wD} {b o:Nat} {ls:List Pr} (h:jv w (some ⟨b,o,none⟩) ls): ∃vs,RwV w (ls.map pr3) vs/\ahP w b o vs:=aiN fun i x hx=>by
 rw[List.getElem?_map,Option.map_eq_some_iff] at hx;obtain⟨L,hL,rfl⟩:=hx;obtain⟨b2,o2,sa,sc,e,h1,h2,h3,h4,h5⟩:=h i L hL
 cases e
 exact⟨sa,sc,h1,h2,h3,h4,h5⟩
theorem aiO {w:wD} {b o i:Nat} {l:List ahS} {vs:List (Int×Int×vL)} {x:ahS} (hr:RwV w l vs) (ht:ahP w b o vs) (hx:l[i]? =some x): ∃sa sc,w.cell? ⟨b,o+i*3,none⟩=some (iN qi x.1)/\w.cell? ⟨b,o+i*3+1,none⟩=some (iN qi x.2.1)/\w.cell? ⟨b,o+i*3+2,none⟩=some (sL sa x.2.2.length sc)/\SlB w sa x.2.2/\x.2.2.length<=1000000:=by
 obtain⟨sa,sc,h1,h2,h3⟩:=hr.get i x hx;obtain⟨g0,g1,g2⟩:=ET vs i _ h1;have k0:=ht _ _ g0;have k1:=ht _ _ g1;have k2:=ht _ _ g2;rw[BH] at k0 k1 k2;exact⟨sa,sc,k0,by rw[Nat.add_assoc];exact k1,by rw[Nat.add_assoc];exact k2,h2,h3⟩
theorem aio {w:wD} {g:Nat} {vs:List (Int×Int×vL)} (h: ∀(j:Nat) (u:vL),(tri vs)[j]? =some u->w.cell? ⟨g,j,none⟩=some u):ahP w g 0 vs:=fun j u hu=>by
 rw[BH,Nat.zero_add];exact h j u hu
theorem aip (w:wD) (n:Nat) (e:TypeId) (s:Nat) (hn:n<=w.heap.size):(w.alloc (cL #[] e)).ownsRow n e s (sL (some ⟨w.heap.size,0,none⟩) 0 0) 0 []:=
 ⟨by simp,.inr ⟨w.heap.size,0,#[],rfl,hn,(MapKept.heap_alloc w _).1,nR _,Nat.zero_le _,by simp,by simp⟩⟩
theorem ajq {n:Nat} {w u:wD} {p:Addr} {v:vL} (hb:bX n w u) (h:w.cell? p=some v) (hn:w.heap.size<=n:=by exact nR _):u.cell? p=some v:=(hb.cell (Nat.lt_of_lt_of_le (wBk w _ h) hn)).trans h
theorem dW.far {w:wD} {b c k:Nat} {a0 a1 a2 a3:vL} (h:dW w b a0 a1 a2 a3) (hne:c≠b) (v:vL):dW (w.setCell ⟨c,k,none⟩ v) b a0 a1 a2 a3:=by
 obtain⟨hz,c0,c1,c2,c3,f0,f1,f2,f3⟩:=h;refine aij ?_ ?_ ?_ ?_ ?_ ?_ ?_ ?_
 all_goals first
  |rw[wF _ _ _ _ hne];assumption
  |rw[World.frozen?_setCell];assumption
theorem dW.drew {w:wD} {b:Nat} {a0 a1 a2 a3:vL} (h:dW w b a0 a1 a2 a3):dW w.drew b a0 a1 a2 a3:=⟨h.z,h.c0,h.c1,h.c2,h.c3,h.f0,h.f1,h.f2,h.f3⟩
theorem c43 (V:BkV) (B:Bk) (i h:Nat) (x1 x2:Int) (w:wD) (hs:aB w V B) (hG:Good B) (hi:i<B.pairs.length) (hh:(h:Int)<B.hours):
  Calls Tryd.prog 31 #[V.val B,iN qi (i:Int),iN qi (h:Int),.agg #[iN qi x1,iN qi x2]] w fun e w'=> ∃g gc,e= .returned (({V with pa:=some ⟨g,0,none⟩,pc:=gc}:BkV).val B)/\aB w' {V with pa:=some ⟨g,0,none⟩,pc:=gc} (fD B i h (x1,x2))/\bG w' (some ⟨g,0,none⟩)/\bX w.heap.size w w':=by
 obtain⟨ta,la,pa,tc,lc,pc⟩:=V;have hp0:B.pairs[i]? =some B.pairs[i]:=lG hi;obtain⟨b,o,_,_,hpa,_⟩:=hs.pairs i _ hp0;simp only at hpa;subst hpa;have hnp:=hG.fine.pairs;have hL:=(hG.fine.calls i _ hp0).1;have hh1:=hG.fine.hours;have hprs:=hs.pairs;obtain⟨vs,hrv,htr⟩:=ajN hprs;have hvl:vs.length=B.pairs.length:=by rw[hrv.len,List.length_map]
 obtain⟨sa,sc,q0,q1,q2,q3,q4⟩:=aiO hrv htr (i:=i) (x:=pr3 B.pairs[i]) (by rw[List.getElem?_map,hp0];rfl);have hcl:1<=(B.pairs[i]).calls.length:=by omega
 obtain⟨sb,so,hsa,_⟩:=q3 0 _ (lG hcl);subst hsa;simp only[pr3] at q0 q1 q2 q3 q4;obtain⟨L,hLL⟩: ∃L,(B.pairs[i]).calls.length=L:=⟨_,rfl⟩;rw[hLL] at q2 hcl hL;have hhL:h<L:=by omega
 have Hs:=lH hs;have Hrv:=lH hrv;have Htr:=lH htr;have Hvl:=lH hvl;have Hq2:=lH q2;have Hq3:=lH q3;have HL:=lH hLL;have HG:=lH hG;obtain⟨i7,hi7,hz7,hy7,hw7⟩:=info_parts Zq;obtain⟨i5,hi5,hz5,hy5,hw5⟩:=info_parts MG;have Hown:Hid (∀u:wD,u.heap.size=w.heap.size+1+1+1+1->(u.alloc (cL #[] 68)).ownsRow (w.heap.size+1+1+1+1) 68 3 (sL (some ⟨w.heap.size+1+1+1+1,0,none⟩) 0 0) 0 []):=lH fun u hu=>by
  have:=aip u (w.heap.size+1+1+1+1) 68 3 (by omega);rwa [hu] at this
 have Hnews:Hid (∀u,bX w.heap.size w u-> ∀(j:Nat) (x:vL),(tri vs)[j]? =some x->u.cell? ((⟨b,o,none⟩:Addr).add j)=some x):=lH fun u hu j x hx=>ajq hu (htr j x hx);have Hone:=lH hrv.one;have Hlen:Hid ((tri vs).length=B.pairs.length*3):=lH (by rw[ES,hvl]);have Hb63:Hid (0+B.pairs.length<=maxLen):=lH (by unfold maxLen;omega);have Hbb:Hid ((0+B.pairs.length)*40<=140737488355328):=lH (by omega);clear hs hG hp0 hprs hrv htr hvl q0 q1 q2 q3 hLL;go_enter Tryd.func31,Tryd.ntmps31
 go_wp2_with (at_builtin;refine wpList_append_own _ rfl _ _ 24 rfl (w.heap.size+1+1+1+1) 68 i7 (.agg #[iN qi 0,iN qi 0,sL none 0 0]) 3 40 Tryd.underlying24 hi7 hz7 hy7 hw7 rfl (by decide) _ _ _ rfl (Hown.out _ (by simp)) ⟨b,o,none⟩ B.pairs.length pc (tri vs) rfl Hlen.out (Hnews.out _ ((((((bR _ _).alloc (nR _) _).alloc (by simp) _).alloc (by simp;omega) _).alloc (by simp;omega) _).alloc (by simp;omega) _)) Hone.out Hb63.out Hbb.out (by simp) ?_;intro v w2 hown1 hgrow _;refine RowKit.Hid.out ?_)
 refine lH ?_;have hr4:=ahT w 26 (iN qi B.hours) (sL ta B.towns.length tc) (sL la B.links.length lc) (sL (some ⟨b,o,none⟩) B.pairs.length pc);have hb0:=(bR w.heap.size w).alloc (nR _) (cL #[iN qi B.hours,sL ta B.towns.length tc,sL la B.links.length lc,sL (some ⟨b,o,none⟩) B.pairs.length pc] 26);have hz0:(w.alloc (cL #[iN qi B.hours,sL ta B.towns.length tc,sL la B.links.length lc,sL (some ⟨b,o,none⟩) B.pairs.length pc] 26)).heap.size=w.heap.size+1:=by simp
 generalize w.alloc (cL #[iN qi B.hours,sL ta B.towns.length tc,sL la B.links.length lc,sL (some ⟨b,o,none⟩) B.pairs.length pc] 26)=W0 at *;have hb1:=hb0.alloc hb0.size (cL #[iN qi x1,iN qi x2] 33);have hs1:=(bR W0.heap.size W0).alloc (nR _) (cL #[iN qi x1,iN qi x2] 33);have hz1:(W0.alloc (cL #[iN qi x1,iN qi x2] 33)).heap.size=w.heap.size+1+1:=by simp[hz0]
 have hc0:(W0.alloc (cL #[iN qi x1,iN qi x2] 33)).cell? ⟨w.heap.size+1,0,none⟩=some (iN qi x1)/\(W0.alloc (cL #[iN qi x1,iN qi x2] 33)).cell? ⟨w.heap.size+1,1,none⟩=some (iN qi x2):=by rw[<-hz0];exact⟨by go_simp,by go_simp⟩
 generalize W0.alloc (cL #[iN qi x1,iN qi x2] 33)=W1 at *;have hr8:=ahT W1 26 (iN qi 0) (sL none 0 0) (sL none 0 0) (sL none 0 0);have hb2:=hb1.alloc hb1.size (cL #[iN qi 0,sL none 0 0,sL none 0 0,sL none 0 0] 26);have hs2:=(bR W1.heap.size W1).alloc (nR _) (cL #[iN qi 0,sL none 0 0,sL none 0 0,sL none 0 0] 26);have hz2:(W1.alloc (cL #[iN qi 0,sL none 0 0,sL none 0 0,sL none 0 0] 26)).heap.size=w.heap.size+1+1+1:=by simp[hz1]
 rw[hz1] at hr8;generalize W1.alloc (cL #[iN qi 0,sL none 0 0,sL none 0 0,sL none 0 0] 26)=W2 at *;have hr9:=ahT W2 26 (iN qi B.hours) (sL ta B.towns.length tc) (sL la B.links.length lc) (sL (some ⟨b,o,none⟩) B.pairs.length pc);have hb3:=hb2.alloc hb2.size (cL #[iN qi B.hours,sL ta B.towns.length tc,sL la B.links.length lc,sL (some ⟨b,o,none⟩) B.pairs.length pc] 26);have hs3:=(bR W2.heap.size W2).alloc (nR _) (cL #[iN qi B.hours,sL ta B.towns.length tc,sL la B.links.length lc,sL (some ⟨b,o,none⟩) B.pairs.length pc] 26);have hz3:(W2.alloc (cL #[iN qi B.hours,sL ta B.towns.length tc,sL la B.links.length lc,sL (some ⟨b,o,none⟩) B.pairs.length pc] 26)).heap.size=w.heap.size+1+1+1+1:=by simp[hz2]
 rw[hz2] at hr9;generalize W2.alloc (cL #[iN qi B.hours,sL ta B.towns.length tc,sL la B.links.length lc,sL (some ⟨b,o,none⟩) B.pairs.length pc] 26)=W3 at *;have hs4:=(bR W3.heap.size W3).alloc (nR _) (cL #[] 68);have hgr:(W3.alloc (cL #[] 68)).grownBy w2 (some (w.heap.size+1+1+1+1)):=hgrow;have hs5:=hs4.grown hgr hs4.size (fun j hj=>by cases hj;rw[hz3];exact nR _);have hwb:=hb3.trans (hs5.mono hb3.size);obtain⟨g,gc,rfl,q1,q2,q3,q4',q5,_⟩:=ru hown1 (by omega);have hrow:=(aan hown1).1;rw[Nat.zero_add,List.nil_append] at *;have hr4:=(((hr4.below hs1 (by omega)).below hs2 (by omega)).below hs3 (by omega)).below hs5 (by omega);have hr8:=(hr8.below hs3 (by omega)).below hs5 (by omega);have hr9:=hr9.below hs5 (by omega);have hc7:w2.cell? ⟨w.heap.size+1,0,none⟩=some (iN qi x1)/\w2.cell? ⟨w.heap.size+1,1,none⟩=some (iN qi x2):=
  ⟨ajq hs5 (ajq hs3 (ajq hs2 hc0.1)),ajq hs5 (ajq hs3 (ajq hs2 hc0.2))⟩
 clear hown1 hgrow hgr hs1 hs2 hs3 hs4 hs5 hb0 hb1 hb2 hc0;refine ajp (h:=ah0 (v:= pN (some ⟨w.heap.size+1+1+1,3,none⟩)) (w':=w2) (by go_simp) ?_);have hst:=hr9.c3;have hstf:=hr9.f3;refine ajp (h:=ah1 (w':=w2.setCell ⟨w.heap.size+1+1+1,3,none⟩ (sL (some ⟨g,0,none⟩) B.pairs.length gc)) (by go_simp) ?_);simp only[Act.put,List.setIfInBounds_toArray,List.set];have hgb:w.heap.size+1+1+1<g:=by omega
 have h4:=hr4.far (c:=w.heap.size+1+1+1) (k:=3) (by omega) (sL (some ⟨g,0,none⟩) B.pairs.length gc);have h8:=hr8.far (c:=w.heap.size+1+1+1) (k:=3) (by omega) (sL (some ⟨g,0,none⟩) B.pairs.length gc);have h9:dW (w2.setCell ⟨w.heap.size+1+1+1,3,none⟩ (sL (some ⟨g,0,none⟩) B.pairs.length gc)) (w.heap.size+1+1+1) (iN qi B.hours) (sL ta B.towns.length tc) (sL la B.links.length lc) (sL (some ⟨g,0,none⟩) B.pairs.length gc):=by
  obtain⟨_,c0,c1,c2,c3,f0,f1,f2,f3⟩:=hr9;refine aij ?_ ?_ ?_ (World.cell?_setCell_same _ _ _ c3) ?_ ?_ ?_ ?_<;>go_simp
 have h7:(w2.setCell ⟨w.heap.size+1+1+1,3,none⟩ (sL (some ⟨g,0,none⟩) B.pairs.length gc)).cell? ⟨w.heap.size+1,0,none⟩=some (iN qi x1)/\(w2.setCell ⟨w.heap.size+1+1+1,3,none⟩ (sL (some ⟨g,0,none⟩) B.pairs.length gc)).cell? ⟨w.heap.size+1,1,none⟩=some (iN qi x2):=by
  constructor
  ·rw[wF _ _ _ _ (show w.heap.size+1+1+1≠w.heap.size+1 by omega)];exact hc7.1
  ·rw[wF _ _ _ _ (show w.heap.size+1+1+1≠w.heap.size+1 by omega)];exact hc7.2
 have hgr:ahP (w2.setCell ⟨w.heap.size+1+1+1,3,none⟩ (sL (some ⟨g,0,none⟩) B.pairs.length gc)) g 0 vs:=aio fun j x hx=>by
  rw[wF _ _ _ _ (show w.heap.size+1+1+1≠g by omega)];exact q3 j x hx
 have hgf: ∀j,(w2.setCell ⟨w.heap.size+1+1+1,3,none⟩ (sL (some ⟨g,0,none⟩) B.pairs.length gc)).frozen? ⟨g,j,none⟩=false:=fun j=>by rw[World.frozen?_setCell];exact q4' j
 have hwb5:=hwb.setCell (p:=⟨w.heap.size+1+1+1,3,none⟩) (show w.heap.size<=w.heap.size+1+1+1 by omega) (sL (some ⟨g,0,none⟩) B.pairs.length gc);have hgz:g<(w2.setCell ⟨w.heap.size+1+1+1,3,none⟩ (sL (some ⟨g,0,none⟩) B.pairs.length gc)).heap.size:=by simpa using q2
 have hrow5:=jm ⟨w.heap.size+1+1+1,3,none⟩ (sL (some ⟨g,0,none⟩) B.pairs.length gc) hrow;clear hr4 hr8 hr9 hc7 q3 q4' hwb q2 hrow hst hstf;generalize w2.setCell ⟨w.heap.size+1+1+1,3,none⟩ (sL (some ⟨g,0,none⟩) B.pairs.length gc)=W5 at *;have Hsh:=lH (And.intro hnp (And.intro hh1 (And.intro hcl (And.intro hhL hgb))));have H4:=lH h4;have H7:=lH h7;have H8:=lH h8;have H9:=lH h9;have Hgr:=lH hgr;have Hgf:=lH hgf;have Hwb:=lH hwb5;have Hgz:=lH hgz;have Hrow:=lH hrow5;have Hzs:=lH (And.intro hz3 hb3.size);clear h4 h7 h8 h9 hgr hgf hwb5 hgz hrow5 hz3 hb3 hz0 hz1 hz2
 go_wp2_with fail
 have hW:bX W5.heap.size W5 W5.drew:=(bR _ _).drew;have hi':(i:Int)<(B.pairs.length:Int):=by omega
 have hi0:(0 :Int)<=(i:Int):=Int.natCast_nonneg _;have z9:=ajq (n:=W5.heap.size) (w:=W5) (u:=W5) (bR _ _) H9.out.c3;have hq2:=ajq Hwb.out Hq2.out;have HC:Hid (∀u,bX W5.heap.size W5 u->u.cell? ⟨w.heap.size+1+1+1,3,none⟩=some (sL (some ⟨g,0,none⟩) B.pairs.length gc)/\u.cell? ⟨w.heap.size,3,none⟩=some (sL (some ⟨b,o,none⟩) B.pairs.length pc)/\u.cell? ⟨b,o+i*3+2,none⟩=some (sL (some ⟨sb,so,none⟩) L sc)):=lH fun u hu=>⟨ajq hu H9.out.c3,ajq hu H4.out.c3,ajq hu hq2⟩;clear z9 hq2;have hW':=HC.out _ hW;refine aif 14 14 (fun u=>u.cell? ⟨w.heap.size+1+1+1,3,none⟩=some (sL (some ⟨g,0,none⟩) B.pairs.length gc)/\u.cell? ⟨w.heap.size,3,none⟩=some (sL (some ⟨b,o,none⟩) B.pairs.length pc)/\u.cell? ⟨b,o+i*3+2,none⟩=some (sL (some ⟨sb,so,none⟩) L sc)) (by kernel_rfl) ?_;refine ahN 0 (pN (some ⟨w.heap.size+1+1+1,3,none⟩)) hW' ?_ (hr:=fun u hu=>by go_simp);refine ahN 1 (sL (some ⟨g,0,none⟩) B.pairs.length gc) hW' ?_ (hr:=fun u hu=>by obtain⟨c0,c1,c2⟩:=hu;go_simp);refine ahN 2 (iN qi (i:Int)) hW' ?_ (hr:=fun u hu=>by go_simp);refine ahN 4 (pN (some ⟨w.heap.size,3,none⟩)) hW' ?_ (hr:=fun u hu=>by go_simp);refine ahN 5 (sL (some ⟨b,o,none⟩) B.pairs.length pc) hW' ?_ (hr:=fun u hu=>by obtain⟨c0,c1,c2⟩:=hu;go_simp);refine ahN 6 (iN qi (i:Int)) hW' ?_ (hr:=fun u hu=>by go_simp);refine ahN 7 (pN (some ⟨b,o+i*3,none⟩)) hW' ?_ (hr:=fun u hu=>by go_simp);refine ahN 8 (pN (some ⟨b,o+i*3+2,none⟩)) hW' ?_ (hr:=fun u hu=>by go_simp);refine ahN 9 (sL (some ⟨sb,so,none⟩) L sc) hW' ?_ (hr:=fun u hu=>by obtain⟨c0,c1,c2⟩:=hu;go_simp);refine ahQ 3 (h:=ah0 (v:= sL (some ⟨W5.drew.heap.size,0,none⟩) 0 0) (w':=W5.drew.alloc (cL #[] 33)) (by go_simp) ⟨fun _=>HC.out _ (hW.alloc hW.size _), ?_⟩);have ho:=aip W5.drew W5.heap.size 33 2 hW.size;have hu0:=hW.alloc hW.size (cL #[] 33);generalize W5.drew.alloc (cL #[] 33)=u0 at *;generalize W5.drew.heap.size=b3 at *;simp only[Act.put,List.setIfInBounds_toArray,List.set,List.getElem_toArray,List.getElem_cons_zero,List.getElem_cons_succ];have hw0:=Hwb.out.trans (hu0.mono Hwb.out.size);refine ahQ 10 (h:=aii (.tmp 19) (.tmp 25) 27 (by rfl) W5.heap.size 33 i5 (.agg #[iN qi 0,iN qi 0]) 2 16 Tryd.underlying27 hi5 hz5 hy5 hw5 (by rfl) (by decide) _ _ _ (by rfl) ho ⟨sb,so,none⟩ L sc (duo (B.pairs[i]).calls) (by rfl)
  (by rw[EW,HL.out]) (fun j x hx=>ajq hw0 (Ny Hq3.out _ rfl j x hx)) (EX _) (by unfold maxLen;omega) (by omega) hu0.size fun v2 u2 ho2 hg2 _=> ?_)
 have hu2:bX W5.heap.size W5 u2:=hu0.grown hg2 hu0.size (fun j hj=>(ho.lt j hj).1);refine⟨fun _=>HC.out _ hu2, ?_⟩;have hS2:=HC.out _ hu2;obtain⟨cb,cc,rfl,q1,q2,q3,q4',q5,_⟩:=ru ho2 (by omega);rw[Nat.zero_add,List.nil_append] at *;have hcg:g≠cb:=by have:=Hgz.out;omega
 simp only[Act.put,List.setIfInBounds_toArray,List.set,List.getElem_toArray,List.getElem_cons_zero,List.getElem_cons_succ];refine ahN 11 (pN (some ⟨g,i*3,none⟩)) hS2 ?_ (hr:=fun u hu=>by go_simp);refine ahN 12 (pN (some ⟨g,i*3+2,none⟩)) hS2 ?_ (hr:=fun u hu=>by go_simp);simp only[Act.put,List.setIfInBounds_toArray,List.set,List.getElem_toArray,List.getElem_cons_zero,List.getElem_cons_succ];have hlt2:=hu2.size;have hg2c:u2.cell? ⟨g,i*3+2,none⟩=some (sL (some ⟨sb,so,none⟩) L sc):=by
  obtain⟨sa1,sc1,e0,e1,e2,_⟩:=aiO (i:=i) (x:=pr3 B.pairs[i]) (Hrv.out.below Hwb.out (nR _)) Hgr.out (by rw[List.getElem?_map,lG hi];rfl);obtain⟨sa3,sc3,f0,f1,f2,_⟩:=aiO (i:=i) (x:=pr3 B.pairs[i]) Hrv.out Htr.out (by rw[List.getElem?_map,lG hi];rfl);obtain⟨sa4,sc4,k1,_⟩:=Hrv.out.get i (pr3 B.pairs[i]) (by rw[List.getElem?_map,lG hi];rfl);have k2:=(ET _ _ _ k1).2.2;have k3:=Htr.out _ _ k2;have k4:=Hgr.out _ _ k2;rw[BH] at k3 k4;rw[<-Nat.add_assoc,Hq2.out] at k3;rw[Nat.zero_add] at k4;rw[<-Option.some.inj k3] at k4;exact ajq hu2 k4
 have hg2f:u2.frozen? ⟨g,i*3+2,none⟩=false:=by rw[(ak hu2).2 _ _ Hgz.out];exact Hgf.out _
 refine ahQ 13 (h:=ah1 (w':=u2.setCell ⟨g,i*3+2,none⟩ (sL (some ⟨cb,0,none⟩) L cc)) (by go_simp) ⟨fun _=> ?_, ?_⟩)
 ·obtain⟨c0,c1,c2⟩:=hS2;have hbz:b<w.heap.size:=wBk w _ Hq2.out;have hgb:=Hsh.out.2.2.2.2;refine⟨?_, ?_, ?_⟩
  ·rw[wF _ _ _ _ (show g≠w.heap.size+1+1+1 by omega)];exact c0
  ·rw[wF _ _ _ _ (show g≠w.heap.size by omega)];exact c1
  ·rw[wF _ _ _ _ (show g≠b by omega)];exact c2
 refine ahZ ?_;simp only[Act.put,List.getElem_toArray,List.getElem_cons_zero,List.getElem_cons_succ];have hgb:=Hsh.out.2.2.2.2;have hWz:w.heap.size+1+1+1+1<=W5.heap.size:=by have:=Hgz.out;omega
 have h4:=(H4.out.below hu2 (by omega)).far (c:=g) (k:=i*3+2) (by omega) (sL (some ⟨cb,0,none⟩) L cc);have h8:=(H8.out.below hu2 (by omega)).far (c:=g) (k:=i*3+2) (by omega) (sL (some ⟨cb,0,none⟩) L cc);have h9:=(H9.out.below hu2 (by omega)).far (c:=g) (k:=i*3+2) (by omega) (sL (some ⟨cb,0,none⟩) L cc);have h7:(u2.setCell ⟨g,i*3+2,none⟩ (sL (some ⟨cb,0,none⟩) L cc)).cell? ⟨w.heap.size+1,0,none⟩=some (iN qi x1)/\(u2.setCell ⟨g,i*3+2,none⟩ (sL (some ⟨cb,0,none⟩) L cc)).cell? ⟨w.heap.size+1,1,none⟩=some (iN qi x2):=by
  constructor
  ·rw[wF _ _ _ _ (show g≠w.heap.size+1 by omega)];exact ajq hu2 H7.out.1
  ·rw[wF _ _ _ _ (show g≠w.heap.size+1 by omega)];exact ajq hu2 H7.out.2
 have hgi:(u2.setCell ⟨g,i*3+2,none⟩ (sL (some ⟨cb,0,none⟩) L cc)).cell? ⟨g,i*3+2,none⟩=some (sL (some ⟨cb,0,none⟩) L cc):=World.cell?_setCell_same _ _ _ hg2c;have hgo: ∀j x,j≠i*3+2->(tri vs)[j]? =some x->(u2.setCell ⟨g,i*3+2,none⟩ (sL (some ⟨cb,0,none⟩) L cc)).cell? ⟨g,j,none⟩=some x:=fun j x hj hx=>by
  rw[wO _ _ _ _ (by intro e;simp only[Addr.mk.injEq] at e;omega)];have:=Hgr.out j x hx;rw[BH,Nat.zero_add] at this;exact ajq hu2 this
 have hcc: ∀j x,(duo (B.pairs[i]).calls)[j]? =some x->(u2.setCell ⟨g,i*3+2,none⟩ (sL (some ⟨cb,0,none⟩) L cc)).cell? ⟨cb,j,none⟩=some x:=fun j x hx=>by
  rw[wF _ _ _ _ hcg];exact q3 j x hx
 have hcf: ∀j,(u2.setCell ⟨g,i*3+2,none⟩ (sL (some ⟨cb,0,none⟩) L cc)).frozen? ⟨cb,j,none⟩=false:=fun j=>by rw[World.frozen?_setCell];exact q4' j
 have hwx:bX w.heap.size w (u2.setCell ⟨g,i*3+2,none⟩ (sL (some ⟨cb,0,none⟩) L cc)):=(Hwb.out.trans (hu2.mono Hwb.out.size)).setCell (p:=⟨g,i*3+2,none⟩) (show w.heap.size<=g by omega) _;have hrx:bG (u2.setCell ⟨g,i*3+2,none⟩ (sL (some ⟨cb,0,none⟩) L cc)) (some ⟨g,0,none⟩):=jm _ _ (nS Hrow.out hu2);have hcbz:w.heap.size+1+1+1<cb:=by have:=Hgz.out;omega
 clear hg2c hg2f q2 q3 q4' ho ho2 hg2 hu0 hu2 hW hW' hS2 hw0 HC hlt2;generalize (u2.setCell ⟨g,i*3+2,none⟩ (sL (some ⟨cb,0,none⟩) L cc))=W6 at *;have K4:=lH h4;have K7:=lH h7;have K8:=lH h8;have K9:=lH h9;have Kgi:=lH hgi;have Kgo:=lH hgo;have Kcc:=lH hcc;have Kcf:=lH hcf;have Kwx:=lH hwx;have Krx:=lH hrx;have Kn:=lH (And.intro hcg (And.intro hcbz hWz));clear h4 h7 h8 h9 hgi hgo hcc hcf hwx hrx hcg hcbz hWz hi' hi0
 go_wp2_with fail
 have hi':(i:Int)<(B.pairs.length:Int):=by omega
 have hi0:(0 :Int)<=(i:Int):=Int.natCast_nonneg _;have hh':(h:Int)<(L:Int):=by omega
 have hh0:(0 :Int)<=(h:Int):=Int.natCast_nonneg _;have hS:W6.drew.cell? ⟨w.heap.size+1+1+1,3,none⟩=some (sL (some ⟨g,0,none⟩) B.pairs.length gc)/\W6.drew.cell? ⟨g,i*3+2,none⟩=some (sL (some ⟨cb,0,none⟩) L cc)/\W6.drew.cell? ⟨w.heap.size+1,0,none⟩=some (iN qi x1)/\W6.drew.cell? ⟨w.heap.size+1,1,none⟩=some (iN qi x2):=⟨K9.out.c3,Kgi.out,K7.out.1,K7.out.2⟩;refine aif 10 10 (fun u=>u.cell? ⟨w.heap.size+1+1+1,3,none⟩=some (sL (some ⟨g,0,none⟩) B.pairs.length gc)/\u.cell? ⟨g,i*3+2,none⟩=some (sL (some ⟨cb,0,none⟩) L cc)/\u.cell? ⟨w.heap.size+1,0,none⟩=some (iN qi x1)/\u.cell? ⟨w.heap.size+1,1,none⟩=some (iN qi x2)) (by kernel_rfl) ?_;refine ahN 0 (pN (some ⟨w.heap.size+1+1+1,3,none⟩)) hS ?_ (hr:=fun u hu=>by go_simp);refine ahN 1 (sL (some ⟨g,0,none⟩) B.pairs.length gc) hS ?_ (hr:=fun u hu=>by obtain⟨c0,c1,c2,c3⟩:=hu;go_simp);refine ahN 2 (iN qi (i:Int)) hS ?_ (hr:=fun u hu=>by go_simp);refine ahN 3 (pN (some ⟨g,i*3,none⟩)) hS ?_ (hr:=fun u hu=>by go_simp);refine ahN 4 (pN (some ⟨g,i*3+2,none⟩)) hS ?_ (hr:=fun u hu=>by go_simp);refine ahN 5 (sL (some ⟨cb,0,none⟩) L cc) hS ?_ (hr:=fun u hu=>by obtain⟨c0,c1,c2,c3⟩:=hu;go_simp);refine ahN 6 (iN qi (h:Int)) hS ?_ (hr:=fun u hu=>by go_simp);refine ahN 7 (.agg #[iN qi x1,iN qi x2]) hS ?_ (hr:=fun u hu=>by obtain⟨c0,c1,c2,c3⟩:=hu;go_simp);refine ahN 8 (pN (some ⟨cb,h*2,none⟩)) hS ?_ (hr:=fun u hu=>by go_simp);simp only[Act.put,List.setIfInBounds_toArray,List.set,List.getElem_toArray,List.getElem_cons_zero,List.getElem_cons_succ];obtain⟨hcg,hcbz,hWz⟩:=Kn.out;have hgb:=Hsh.out.2.2.2.2;have hhl:h<(B.pairs[i]).calls.length:=by rw[HL.out];exact hhL
 obtain⟨d0,d1⟩:=oV _ h _ (lG hhl);have d0':W6.cell? ⟨cb,h*2,none⟩=some (iN qi ((B.pairs[i]).calls[h]).1):=Kcc.out _ _ d0;have d1':W6.cell? ⟨cb,h*2+1,none⟩=some (iN qi ((B.pairs[i]).calls[h]).2):=Kcc.out _ _ d1;have e0:W6.frozen? ⟨cb,h*2,none⟩=false:=Kcf.out _;have e1:W6.frozen? ⟨cb,h*2+1,none⟩=false:=Kcf.out _;refine ahQ 9 (h:=ah1 (w':=((W6.drew.setCell ⟨cb,h*2,none⟩ (iN qi x1)).setCell ⟨cb,h*2+1,none⟩ (iN qi x2))) (by go_simp) ⟨fun _=> ?_, ?_⟩)
 ·obtain⟨c0,c1,c2,c3⟩:=hS;refine⟨?_, ?_, ?_, ?_⟩
  ·rw[wF _ _ _ _ (show cb≠w.heap.size+1+1+1 by omega),wF _ _ _ _ (show cb≠w.heap.size+1+1+1 by omega)];exact c0
  ·rw[wF _ _ _ _ (Ne.symm hcg),wF _ _ _ _ (Ne.symm hcg)];exact c1
  ·rw[wF _ _ _ _ (show cb≠w.heap.size+1 by omega),wF _ _ _ _ (show cb≠w.heap.size+1 by omega)];exact c2
  ·rw[wF _ _ _ _ (show cb≠w.heap.size+1 by omega),wF _ _ _ _ (show cb≠w.heap.size+1 by omega)];exact c3
 refine ahZ ?_;simp only[Act.put,List.getElem_toArray,List.getElem_cons_zero,List.getElem_cons_succ];have h8:=(K8.out.drew.far (c:=cb) (k:=h*2) (by omega) (iN qi x1)).far (c:=cb) (k:=h*2+1) (by omega) (iN qi x2);have h9:=(K9.out.drew.far (c:=cb) (k:=h*2) (by omega) (iN qi x1)).far (c:=cb) (k:=h*2+1) (by omega) (iN qi x2);have hwx:bX w.heap.size w ((W6.drew.setCell ⟨cb,h*2,none⟩ (iN qi x1)).setCell ⟨cb,h*2+1,none⟩ (iN qi x2)):=(Kwx.out.drew.setCell (p:=⟨cb,h*2,none⟩) (show w.heap.size<=cb by omega) _).setCell (p:=⟨cb,h*2+1,none⟩) (show w.heap.size<=cb by omega) _;have hrx:bG ((W6.drew.setCell ⟨cb,h*2,none⟩ (iN qi x1)).setCell ⟨cb,h*2+1,none⟩ (iN qi x2)) (some ⟨g,0,none⟩):=jm _ _ (jm _ _ Krx.out);have hgc: ∀j,((W6.drew.setCell ⟨cb,h*2,none⟩ (iN qi x1)).setCell ⟨cb,h*2+1,none⟩ (iN qi x2)).cell? ⟨g,j,none⟩=W6.cell? ⟨g,j,none⟩:=fun j=>by
  rw[wF _ _ _ _ (Ne.symm hcg),wF _ _ _ _ (Ne.symm hcg)];rfl
 have hcc: ∀(k:Nat) (y:Int×Int),(B.pairs[i]).calls[k]? =some y->((W6.drew.setCell ⟨cb,h*2,none⟩ (iN qi x1)).setCell ⟨cb,h*2+1,none⟩ (iN qi x2)).cell? ⟨cb,k*2,none⟩=some (iN qi (if k=h then (x1,x2) else y).1)/\((W6.drew.setCell ⟨cb,h*2,none⟩ (iN qi x1)).setCell ⟨cb,h*2+1,none⟩ (iN qi x2)).cell? ⟨cb,k*2+1,none⟩=some (iN qi (if k=h then (x1,x2) else y).2):=fun k y hy=>by
  obtain⟨y0,y1⟩:=oV _ k _ hy;have y0':W6.drew.cell? ⟨cb,k*2,none⟩=some (iN qi y.1):=Kcc.out _ _ y0;have y1':W6.drew.cell? ⟨cb,k*2+1,none⟩=some (iN qi y.2):=Kcc.out _ _ y1;by_cases c:k=h
  ·subst c;rw[if_pos rfl];constructor
   ·rw[wO _ _ _ _ (by intro e;simp only[Addr.mk.injEq] at e;omega)];exact World.cell?_setCell_same _ _ _ y0'
   ·refine World.cell?_setCell_same _ _ _ (?_: _=some (iN qi y.2));rw[wO _ _ _ _ (by intro e;simp only[Addr.mk.injEq] at e;omega)];exact y1'
  ·rw[if_neg c];constructor
   ·rw[wO _ _ _ _ (by intro e;simp only[Addr.mk.injEq] at e;omega),wO _ _ _ _ (by intro e;simp only[Addr.mk.injEq] at e;omega)];exact y0'
   ·rw[wO _ _ _ _ (by intro e;simp only[Addr.mk.injEq] at e;omega),wO _ _ _ _ (by intro e;simp only[Addr.mk.injEq] at e;omega)];exact y1'
 clear d0 d1 d0' d1' e0 e1 hS;generalize ((W6.drew.setCell ⟨cb,h*2,none⟩ (iN qi x1)).setCell ⟨cb,h*2+1,none⟩ (iN qi x2))=u3 at *;have Hend:Hid (∀u,(∀j,u.cell? ⟨g,j,none⟩=u3.cell? ⟨g,j,none⟩)->(∀j,u.cell? ⟨cb,j,none⟩=u3.cell? ⟨cb,j,none⟩)->bX w.heap.size w u->aB u ⟨ta,la,some ⟨g,0,none⟩,tc,lc,gc⟩ (fD B i h (x1,x2))):=lH fun u hu1 hu2 hb=>by
  refine ajM (V:=⟨ta,la,some ⟨b,o,none⟩,tc,lc,pc⟩) (cb:=cb) (cc:=cc) Hs.out rfl hi hb (fun j hj=> ?_) ?_ (fun k y hy=> ?_)
  ·have hxj:(B.pairs.map pr3)[j]? =some (pr3 B.pairs[j]):=by rw[List.getElem?_map,lG hj];rfl
   obtain⟨sa1,sc1,k1,_⟩:=Hrv.out.get j _ hxj;obtain⟨t0,t1,t2⟩:=ET _ _ _ k1;have hpo:B.pone j=B.pairs[j].one:=by unfold Bk.pone;rw[lG hj];rfl
   have hpt:B.ptwo j=B.pairs[j].two:=by unfold Bk.ptwo;rw[lG hj];rfl
   rw[hpo,hpt];refine⟨?_, ?_,fun hne=> ?_⟩
   ·rw[hu1,hgc];exact Kgo.out _ _ (by omega) t0
   ·rw[hu1,hgc];exact Kgo.out _ _ (by omega) t1
   ·rw[hu1,hgc,Kgo.out _ _ (by omega) t2];have k3:=Htr.out _ _ t2;rw[BH,<-Nat.add_assoc] at k3;exact k3.symm
  ·rw[hu1,hgc,HL.out];exact Kgi.out
  ·rw[hu2,hu2];exact hcc k y hy
 have Hwx:=lH hwx;have Hrx:=lH hrx;have Hne:=lH (And.intro hcg (And.intro hcbz hgb));clear hwx hrx hgc hcc hhl hi' hi0 hh' hh0 hcg hcbz hWz hgb;obtain⟨_,c0,c1,c2,c3,f0,f1,f2,f3⟩:=h9;obtain⟨_,e0,e1,e2,e3,g0,g1,g2,g3⟩:=h8;go_wp2;refine bodyPost_ret (v:= .agg #[iN qi B.hours,sL ta B.towns.length tc,sL la B.links.length lc,sL (some ⟨g,0,none⟩) B.pairs.length gc]) (by simp[results,Tryd.results31,go_sem,e0,e1,e2,e3]) rfl ?_;obtain⟨hcg,hcbz,hgb⟩:=Hne.out;have hbz:=aik Hwx.out (b:=w.heap.size+1+1) (show w.heap.size<=w.heap.size+1+1 by omega) rfl (iN qi B.hours) (sL ta B.towns.length tc) (sL la B.links.length lc) (sL (some ⟨g,0,none⟩) B.pairs.length gc);refine⟨g,gc, ?_,Hend.out _ (fun j=> ?_) (fun j=> ?_) hbz,jm _ _ (jm _ _ (jm _ _ (jm _ _ Hrx.out))),hbz⟩
 ·simp only[BkV.val]
 ·have hne:w.heap.size+1+1≠g:=by omega
  rw[wF _ _ _ _ hne,wF _ _ _ _ hne,wF _ _ _ _ hne,wF _ _ _ _ hne]
 ·have hne:w.heap.size+1+1≠cb:=by omega
  rw[wF _ _ _ _ hne,wF _ _ _ _ hne,wF _ _ _ _ hne,wF _ _ _ _ hne]
theorem Alike.trans {A B C:Bk} (s:Alike A B) (t:Alike B C):Alike A C:=
 ⟨t.hours.trans s.hours,t.towns.trans s.towns,t.links.trans s.links,t.len.trans s.len,fun i=>(t.one i).trans (s.one i),fun i=>(t.two i).trans (s.two i)⟩
theorem Alike.symm {A B:Bk} (s:Alike A B):Alike B A:=
 ⟨s.hours.symm,s.towns.symm,s.links.symm,s.len.symm,fun i=>(s.one i).symm,fun i=>(s.two i).symm⟩
theorem Alike.refl (A:Bk):Alike A A:=⟨rfl,rfl,rfl,rfl,fun _=>rfl,fun _=>rfl⟩
theorem aqg {B:Bk} (hB:B.alarm=0) {i h:Nat} (hi:i<B.pairs.length) (hh:(h:Int)<B.hours) {x y:Int×Int} (hx:dw x=true) (hy:dw y=true) (h2:y.2<=x.2):
  (fD B i h x).alarm=0/\(fD B i h y).alarm=0/\(aC (fD B i h y) aT).2<=(aC (fD B i h x) aT).2:=by
 have ax:=ahq hB (i:=i) (h:=h) hx;have ay:=ahq hB (i:=i) (h:=h) hy;refine⟨ax,ay,agG ((ahr B i h y).symm.trans (ahr B i h x)) ay ax fun g j=> ?_⟩;have hp:=lG hi;have hL:=((gY hB).fine.calls i _ hp).1;have hh2:h<B.pairs[i].calls.length:=by omega
 rw[ahs hp rfl hh2,ahs hp rfl hh2]
 split
 ·simpa using h2
 ·exact Int.le_refl _
def Rw (n:Int):Int:=max 0 (min n 5)
def apW (x:Int×Int):Int×Int:=(Rw x.1,Rw x.2)
theorem apX {a b:Int} (h:a<=b):Rw a<=Rw b:=by unfold Rw;omega
theorem ap7 {x:Int×Int} (h:x.1<=x.2):dw (apW x)=true:=by
 unfold dw apW Rw;simp only[decide_eq_true_eq];omega
def ajj (l:List (Int×Int)):Int:=(l.map (·.1)).sum
def alA (l:List (Int×Int)):Int:=(l.map (·.2)).sum
def WO (l:List (Int×Int)):Int×Int:=(ajj l / l.length,alA l / l.length)
theorem low_set: ∀(l:List (Int×Int)) (k:Nat) (y:Int×Int) (h:k<l.length),ajj (l.set k y)=ajj l-(l[k]).1+y.1
 | [],k,y,h=>by simp at h
 |x::l,0,y,_=>by simp[ajj];omega
 |x::l,k+1,y,h=>by
  have ih:=low_set l k y (by simpa using h);simp only[ajj,List.set_cons_succ,List.map_cons,List.sum_cons,List.getElem_cons_succ] at ih ⊢;omega
theorem ap8: ∀(l:List (Int×Int)) (k:Nat) (y:Int×Int) (h:k<l.length),alA (l.set k y)=alA l-(l[k]).2+y.2
 | [],k,y,h=>by simp at h
 |x::l,0,y,_=>by simp[alA];omega
 |x::l,k+1,y,h=>by
  have ih:=ap8 l k y (by simpa using h);simp only[alA,List.set_cons_succ,List.map_cons,List.sum_cons,List.getElem_cons_succ] at ih ⊢;omega
theorem ap3: ∀(l:List (Int×Int)),(∀x∈l,x.1<=x.2)->ajj l<=alA l
 | [],_=>by simp[ajj,alA]
 |x::l,h=>by
  have ih:=ap3 l fun y hy=>h y (List.mem_cons_of_mem _ hy);have hx:=h x List.mem_cons_self;simp only[ajj,alA,List.map_cons,List.sum_cons] at ih ⊢;omega
theorem aqh {l:List (Int×Int)} {k:Nat} {v:Int} (hk:k<l.length) (hl: ∀x∈l,x.1<=x.2) (hv:(l[k]).1<=v/\v<=(l[k]).2):
  (WO l).1<=(WO (l.set k (v,v))).1/\(WO (l.set k (v,v))).1<=(WO (l.set k (v,v))).2/\(WO (l.set k (v,v))).2<=(WO l).2/\(WO l).1<=(WO l).2:=by
 have hn:(0 :Int)<(l.length:Int):=by omega
 have h1:=low_set l k (v,v) hk;have h2:=ap8 l k (v,v) hk;have h3:=ap3 (l.set k (v,v)) fun x hx=>by
  rcases List.mem_or_eq_of_mem_set hx with h |rfl
  ·exact hl x h
  ·exact Int.le_refl _
 have h4:=ap3 l hl;unfold WO;rw[List.length_set];simp only at h1 h2;exact⟨Int.ediv_le_ediv hn (by omega),Int.ediv_le_ediv hn h3,Int.ediv_le_ediv hn (by omega),Int.ediv_le_ediv hn h4⟩
end Go.Proofs.YtfiiffnbggnkfaaDoor
