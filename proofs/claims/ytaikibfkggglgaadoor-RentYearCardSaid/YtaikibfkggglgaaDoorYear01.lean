/- A part of the proof of a law; no conditions of its own. -/
import Derived.Test.YtaikibfkggglgaaDoorW27
import Derived.OrdersHeld
set_option maxRecDepth 100000
open Go renaming undef→ud
open Nat renaming le_refl→nR
open Go.Lib renaming hid→lH
open Go.Proofs.Tryd renaming prog→tP
open List renaming getElem?_eq_getElem→lG
set_option maxHeartbeats 4000000
namespace Go.Proofs.YtaikibfkggglgaaDoor
open Go.RowKit Go.Rent Go.Tp Go.Conc
section
variable {f:FuncId} {ops:Array Oper} {kk:List Item} {R:Value->World->Prop}
theorem acD {w u x:World} (h:Kept w.heap.size w u) (k:Kept u.heap.size u x):Kept w.heap.size w x:=h.trans (k.mono h.size)
def YG (ops:Array Oper) (o:Oper) (v:Value) (a:Act) (w:World):Prop:=
 (Region.wanted o (yielded ops a.tmps)=true/\ ∀u,Kept w.heap.size w u->(execOp a.eval o).run tP u= .ok (.value v) u)\/(Region.wanted o (yielded ops a.tmps)=false/\v=ud)
theorem YG.kept {o:Oper} {v:Value} {a:Act} {w w':World} (h:YG ops o v a w) (hk:Kept w.heap.size w w'):YG ops o v a w':=by
 rcases h with ⟨h1,h2⟩ |h
 ·exact .inl ⟨h1,fun u hu=>h2 u (acD hk hu)⟩
 ·exact .inr h
def acv (K:Value->World->Prop) (w:World) (m:Sem Next):Prop:=
 (∃v,(∀τ,m.run tP (w.tp τ 0 noJ)= .ok (.value v) (w.tp τ 0 noJ))/\K v w)\/
 (∃S:Value->World->Prop,(∀τ,∃v w',m.run tP (w.tp τ 0 noJ)= .ok (.value v) w'/\S v w')/\ ∀v w',S v w'->Kept w.heap.size w w'/\K v w')\/
 (∃g args R1,(∀u,m.run tP u= .ok (.enter g args) u)/\iK tP g args w R1/\ ∀v w',R1 v w'->Kept w.heap.size w w'/\K v w')
theorem acv.mono {w:World} {m:Sem Next} {K K':Value->World->Prop} (h: ∀v w',Kept w.heap.size w w'->K v w'->K' v w') (hh:acv K w m):acv K' w m:=by
 rcases hh with ⟨v,h1,h2⟩ |⟨S,h1,h2⟩ |⟨g,args,R1,h1,h2,h3⟩
 ·exact .inl ⟨v,h1,h v w (Kept.refl _ _) h2⟩
 ·exact .inr (.inl ⟨S,h1,fun v w' hv=>⟨(h2 v w' hv).1,h _ _ (h2 v w' hv).1 (h2 v w' hv).2⟩⟩)
 ·exact .inr (.inr ⟨g,args,R1,h1,h2,fun v w' hv=>⟨(h3 v w' hv).1,h _ _ (h3 v w' hv).1 (h3 v w' hv).2⟩⟩)
def OpG (ops:Array Oper) (i:Nat) (K:Act->World->Prop) (a:Act) (w:World):Prop:=
 match ops[i]? with
 |none=>False
 |some o=>if Region.wanted o (yielded ops a.tmps) then acv (fun v w'=>K (a.put o.dst v) w') w (execOp a.eval o) else K (a.put o.dst ud) w
theorem OpG.mono {i:Nat} {a:Act} {w:World} {K K':Act->World->Prop} (h: ∀a w,K a w->K' a w) (hh:OpG ops i K a w):OpG ops i K' a w:=by
 unfold OpG at *
 split
 ·simp_all
 ·rename_i o ho;simp only[ho] at hh
  split
  ·rename_i hw;simp only[hw,if_true] at hh;exact hh.mono fun _ _ _=>h _ _
  ·rename_i hw;simp only[hw] at hh;exact h _ _ hh
theorem acE {i:Nat} {rest:List Nat} {a:Act} {w:World} (h:OpG ops i (fun a' w'=>GL tP f (.inRegion ops rest::kk) R a' w') a w):GL tP f (.inRegion ops (i::rest)::kk) R a w:=by
 unfold OpG at h
 split at h
 ·exact h.elim
 ·rename_i o ho
  split at h
  ·rename_i hw
   rcases h with ⟨v,h1,h2⟩ |⟨S,h1,h2⟩ |⟨g,args,R1,h1,h2,h3⟩
   ·refine LQ good (fun v' u=>v'=v/\ ∃τ,u=w.tp τ 0 noJ) ho hw (fun τ=>⟨v,_,h1 τ,rfl,τ,rfl⟩) fun v' u ⟨e,τ,e2⟩=> ?_;subst e e2;exact qL (τ:=w.tape) (d:=w.drawn) (by rw[dS,dh];exact h2)
   ·exact LQ good S ho hw h1 fun v w' hv=>(h2 v w' hv).2
   ·exact qM good ho hw h1 h2 fun v w' hv=>(h3 v w' hv).2
  ·rename_i hw;exact Bf good ho (by simpa using hw) h
theorem YG.opG {i:Nat} {o:Oper} {v:Value} {a:Act} {w:World} {K:Act->World->Prop} (hi:ops[i]? =some o) (hy:YG ops o v a w) (hK:K (a.put o.dst v) w):OpG ops i K a w:=by
 unfold OpG;simp only[hi]
 rcases hy with ⟨hw,hv⟩ |⟨hw,rfl⟩
 ·simp only[hw,if_true];exact .inl ⟨v,fun τ=>hv _ jD,hK⟩
 ·simp only[hw,Bool.false_eq_true,if_false];exact hK
theorem acF {j:Nat} {oi oj:Oper} {v:Value} (hj:ops[j]? =some oj) (hap:oi.apart ops oj=true) (hsi: ∀cs b,oi.op≠ .select cs b) (hsj: ∀cs b,oj.op≠ .select cs b) {K:Act->World->Prop} {a:Act} {w:World}
  (hy:YG ops oi v a w) (h:OpG ops j K (a.put oi.dst v) w):OpG ops j (fun a' w'=>YG ops oi v a' w'/\K (a'.put oi.dst v) w') a w:=by
 obtain⟨h1,h2,h3⟩:=Oper.apart_spec hap;have keep: ∀(u:Value) (w':World),Kept w.heap.size w w'->YG ops oi v (a.put oj.dst u) w':=fun u w' hk=>by
  refine YG.kept (w:=w) ?_ hk;unfold YG at hy ⊢;rw[wanted_put oi a oj.dst u h3,execOp_put oi hsi a oj.dst u h3];exact hy
 unfold OpG at *;simp only[hj] at *;rw[wanted_put oj a oi.dst v h1] at h
 split
 ·rename_i hw;simp only[hw,if_true] at h;rw[execOp_put oj hsj a oi.dst v h1] at h;refine h.mono fun u w' hk hh=>⟨keep u w' hk, ?_⟩;rw[<-Act.put_comm a v u h2];exact hh
 ·rename_i hw;simp only[hw] at h;refine⟨keep _ _ (Kept.refl _ _), ?_⟩;rw[<-Act.put_comm a v ud h2];exact h
def GA (f:FuncId) (ops:Array Oper) (kk:List Item) (R:Value->World->Prop):Nat->Array Bool->Act->World->Prop
 | 0,listed,a,w=>Region.ready .any ops listed= []/\GL tP f kk R a w
 |n+1,listed,a,w=>(Region.ready .any ops listed= []->GL tP f kk R a w)/\ ∀i∈Region.ready .any ops listed,OpG ops i (GA f ops kk R n (listed.setIfInBounds i true)) a w
theorem acw: ∀(n t:Nat) (listed:Array Bool) (a:Act) (w:World),GA f ops kk R n listed a w->GL tP f (.inRegion ops (Region.linearise.go .any ops n t listed [])::kk) R a w
 | 0,t,listed,a,w,h=>by
  simp only[Region.linearise.go,List.reverse_nil];exact lY good h.2
 |n+1,t,listed,a,w,h=>by
  obtain⟨h0,h1⟩:=h;simp only[Region.linearise.go]
  change GL tP f (.inRegion ops (match (Region.ready .any ops listed)[t % (Region.ready .any ops listed).length]? with
   |some i=>Region.linearise.go .any ops n (t / (Region.ready .any ops listed).length) (listed.setIfInBounds i true) [i]
   |none=> [].reverse)::kk) R a w
  cases hi:(Region.ready .any ops listed)[t % (Region.ready .any ops listed).length]? with
  |none=>
   have hnil:Region.ready .any ops listed= []:=by
    cases hr:Region.ready .any ops listed with
    |nil=>rfl
    |cons x xs=>
     rw[hr] at hi;have hlt:t % (x::xs).length<(x::xs).length:=Nat.mod_lt _ (by simp);simp at hi;simp at hlt;omega
   exact lY good (h0 hnil)
  |some i=>
   simp only[];rw[linearise_go_acc,List.reverse_singleton,List.singleton_append];exact acE ((h1 i (List.mem_of_getElem? hi)).mono fun a' w' x=>acw n _ _ a' w' x)
theorem acG {i:Nat} {oi:Oper} {v:Value} (hi:ops[i]? =some oi) (hsel: ∀(j:Nat) (o:Oper) cs b,ops[j]? =some o->o.op≠ .select cs b):
    ∀(n:Nat) (listed:Array Bool) (a:Act) (w:World),
      (∀j oj,ops[j]? =some oj->j≠i->listed.getD j true=false->(∀e∈oj.after,Region.binds .any e=true->e.on≠i)->oi.apart ops oj=true)->
      i∈Region.ready .any ops listed->YG ops oi v a w->GA f ops kk R n (listed.setIfInBounds i true) (a.put oi.dst v) w->GA f ops kk R (n+1) listed a w:=by
  intro n
  induction n with
  |zero=>
    intro listed a w _ hr hy H;refine⟨fun h=>(by rw[h] at hr;cases hr),fun j hj=> ?_⟩;by_cases hji:j=i
    · subst hji;exact hy.opG hi H
    · have:=ready_mono hj hji
      rw[H.1] at this
      cases this
  |succ n ih=>
    intro listed a w hfree hr hy H;refine⟨fun h=>(by rw[h] at hr;cases hr),fun j hj=> ?_⟩;by_cases hji:j=i
    · subst hji;exact hy.opG hi H
    · have h1:=H.2 j (ready_mono hj hji)
      obtain⟨hjun,oj,hoj,hall⟩:=mem_ready.1 hj;have hnot: ∀e∈oj.after,Region.binds .any e=true->e.on≠i:=fun e he hb heq=>by
        have h1:=hall e he hb;have h0:=(mem_ready.1 hr).1;rw[heq] at h1
        rcases Nat.lt_or_ge i listed.size with h' |h'
        · simp[h'] at h0 h1;rw[h0] at h1;cases h1
        · simp[Array.getElem?_eq_none h'] at h1
      have h2:=acF hoj (hfree j oj hoj hji hjun hnot) (fun cs b=>hsel i oi cs b hi) (fun cs b=>hsel j oj cs b hoj) hy h1;have hfree': ∀k ok,ops[k]? =some ok->k≠i->(listed.setIfInBounds j true).getD k true=false->
          (∀e∈ok.after,Region.binds .any e=true->e.on≠i)->oi.apart ops ok=true:=fun k ok hk hki hun hno=>by
        refine hfree k ok hk hki ?_ hno;by_cases hjk:j=k
        · subst hjk;exact hjun
        · rw[getD_set_ne true hjk] at hun;exact hun
      refine h2.mono fun a' w' h3=>ih (listed.setIfInBounds j true) a' w' hfree' (ready_mono hr (Ne.symm hji)) h3.1 ?_;rw[Array.setIfInBounds_comm _ _ hji];exact h3.2
theorem ac3 (m:Nat) {id:Nat} {a:Act} {w:World} (h:GA f ops kk R m (Array.replicate m false) a w) (hm:ops.size=m:=by rfl):GL tP f (.code (.region id ops true)::kk) R a w:=by
 subst hm;refine Eo good (fun it b u=> ∃t,it= .inRegion ops (Region.linearise .any ops t)::kk/\b=a/\ ∃τ d,u=w.tp τ d noJ) (fun τ=>⟨.inRegion ops (Region.linearise .any ops ((w.tp τ 0 noJ).tape (w.tp τ 0 noJ).drawn (.order (aN f).fn id)))::kk,a,w.tp τ 1 noJ,⟨_,rfl,rfl,τ,1,rfl⟩,fun cc=> .one ?_⟩) ?_
 ·have:=step_region_draw (P:=tP) (b:=aN f) (a:=a) (k:=kk) (cs:=cc) (w:=w.tp τ 0 noJ) (ops:=ops) (id:=id);rw[this];simp only[Region.schedule,show tP.follows .mixedOrders=true by kernel_rfl,Bool.true_or,if_true];rfl
 ·rintro it b u ⟨t,rfl,rfl,τ,d,rfl⟩;exact qL (τ:=w.tape) (d:=w.drawn) (by rw[dS,dh];exact acw _ _ _ _ _ h)
end
section
variable {f:FuncId} {N n d s t:Nat} {a:Act} {w:World} {l:List (Nat×Value)} {ops:Array Oper} {listed:Array Bool} {i:Nat} {kk:List Item} {R:Value->World->Prop} {o:Oper}
theorem acy {v:Value} (ho:ops[i]? =some o) (hsel:Region.noSelect ops=true) (hf:Region.free .any ops listed i=true) (hc:(Region.ready .any ops listed).contains i=true) (hy:YG ops o v a w) (h:GA f ops kk R n (listed.setIfInBounds i true) (a.put o.dst v) w):GA f ops kk R (n+1) listed a w:=
 acG ho (Region.noSelect_spec hsel) n listed a w (Region.free_spec ho hf) (by simpa using hc) hy h
theorem acr {v:Value} (hS:Sl a N l) (ho:ops[i]? =some o) (hw:Region.wanted o (yielded ops a.tmps)=true) (hdst:o.dst=some d) (hd:d<N) (hn:(l.map (·.1)).contains d=false) (hsel:Region.noSelect ops=true) (hf:Region.free .any ops listed i=true) (hc:(Region.ready .any ops listed).contains i=true)
  (hr: ∀u,Kept w.heap.size w u->(execOp a.eval o).run tP u= .ok (.value v) u) (h: ∀a',Sl a' N ((d,v)::l)->GA f ops kk R n (listed.setIfInBounds i true) a' w):GA f ops kk R (n+1) listed a w:=
 acy ho hsel hf hc (.inl ⟨hw,hr⟩) (h _ (by have:=hS.put hd hn (v:=v);rw[<-hdst] at this;exact this))
theorem acH (hr:Region.ready .any ops listed= [i]) (h:OpG ops i (GA f ops kk R n (listed.setIfInBounds i true)) a w):GA f ops kk R (n+1) listed a w:=
 ⟨fun h0=>(by rw[hr] at h0;cases h0),fun j hj=>by rw[hr,List.mem_singleton] at hj;subst hj;exact h⟩
theorem ac4 (i:Nat) {g:FuncId} {args:Array Value} {R1:Value->World->Prop} (hcall:iK tP g args w fun v w'=>R1 v w'/\Kept w.heap.size w w') (hS:Sl a N l) (k: ∀a' v w',R1 v w'/\Kept w.heap.size w w'->Sl a' N ((d,v)::l)->GA f ops kk R n (listed.setIfInBounds i true) a' w')
  (ho:ops[i]? =some o:=by rfl) (hw:Region.wanted o (yielded ops a.tmps)=true:=by rfl) (hdst:o.dst=some d:=by rfl) (hd:d<N:=by decide) (hn:(l.map (·.1)).contains d=false:=by rfl) (hc:Region.ready .any ops listed= [i]:=by kernel_rfl)
  (hr: ∀u,(execOp a.eval o).run tP u= .ok (.enter g args) u:=by intro u;have h:=(‹Sl _ _ _›).2.2;simp only[SlA] at h;simp[go_sem,h]):GA f ops kk R (n+1) listed a w:=by
 refine acH hc ?_;unfold OpG;simp only[ho,hw,if_true];refine .inr (.inr ⟨g,args,_,hr,hcall,fun v w' hv=>⟨hv.2,k _ v w' hv ?_⟩⟩);have:=hS.put hd hn (v:=v);rw[<-hdst] at this;exact this
theorem ac5 (h:GL tP f kk R a w) (hr:Region.ready .any ops listed= []:=by kernel_rfl):GA f ops kk R 0 listed a w:=⟨hr,h⟩
theorem ac6 (i:Nat) {dd j:Nat} {b:Bool} {v:Value} (hS:Sl a N l) (h: ∀a',Sl a' N ((d,ud)::l)->GA f ops kk R n (listed.setIfInBounds i true) a' w) (hv:a.tmps[dd]?.getD ud=v)
  (ho:ops[i]? =some o:=by rfl) (hg:o.guard=some (j,b):=by rfl) (hj:(ops[j]?.bind fun x=>x.dst)=some dd:=by rfl) (hdst:o.dst=some d:=by rfl) (hd:d<N:=by decide) (hlt:dd<N:=by decide) (hn:(l.map (·.1)).contains d=false:=by rfl) (hbc:(acu v==some b)=false:=by rfl) (hsel:Region.noSelect ops=true:=by kernel_rfl) (hf:Region.free .any ops listed i=true:=by kernel_rfl) (hc:(Region.ready .any ops listed).contains i=true:=by kernel_rfl):
  GA f ops kk R (n+1) listed a w:=by
 have hw:Region.wanted o (yielded ops a.tmps)=false:=by
  unfold Region.wanted yielded;rw[hg];simp only[hj,Option.bind_some];rw[<-hS.1] at hlt;rw[Array.getElem?_eq_getElem hlt] at hv ⊢;simp only[Option.getD_some] at hv;rw[hv]
  cases v with
  |bool c=>simpa[acu] using hbc
  |_=>rfl
 refine acy ho hsel hf hc (.inr ⟨hw,rfl⟩) (h _ ?_);have:=hS.put hd hn (v:=ud);rw[<-hdst] at this;exact this
theorem ac7 (i:Nat) (v:Value) (hS:Sl a N l) (h: ∀a',Sl a' N ((d,v)::l)->GA f ops kk R n (listed.setIfInBounds i true) a' w)
  (ho:ops[i]? =some o:=by rfl) (hw:Region.wanted o (yielded ops a.tmps)=true:=by rfl) (hdst:o.dst=some d:=by rfl) (hd:d<N:=by decide) (hn:(l.map (·.1)).contains d=false:=by rfl) (hsel:Region.noSelect ops=true:=by kernel_rfl) (hf:Region.free .any ops listed i=true:=by kernel_rfl) (hc:(Region.ready .any ops listed).contains i=true:=by kernel_rfl)
  (hr: ∀u,(execOp a.eval o).run tP u= .ok (.value v) u:=by intro u;have h:=(‹Sl _ _ _›).2.2;simp only[SlA] at h;simp[go_sem,h]):
  GA f ops kk R (n+1) listed a w:=acr hS ho hw hdst hd hn hsel hf hc (fun u _=>hr u) h
theorem ac8 (i:Nat) {b1:Nat} {V:BkV} {B:Bk} (hS:Sl a N l) (hB:dL w b1 V B) (h: ∀a',Sl a' N ((d,V.val B)::l)->GA f ops kk R n (listed.setIfInBounds i true) a' w)
  (ho:ops[i]? =some o:=by rfl) (hw:Region.wanted o (yielded ops a.tmps)=true:=by rfl) (hdst:o.dst=some d:=by rfl) (hd:d<N:=by decide) (hn:(l.map (·.1)).contains d=false:=by rfl) (hsel:Region.noSelect ops=true:=by kernel_rfl) (hf:Region.free .any ops listed i=true:=by kernel_rfl) (hc:(Region.ready .any ops listed).contains i=true:=by kernel_rfl) (hp:o.op= .load 26 (.tmp s):=by rfl) (hs:a.tmps[s]?.getD ud= .pointer (some ⟨b1,0,none⟩):=by have h:=(‹Sl _ _ _›).2.2;simp only[SlA] at h;simp only[h]):GA f ops kk R (n+1) listed a w:=acr hS ho hw hdst hd hn hsel hf hc (fun u hk=>by
   have⟨c0,c1,c2,c3,_,_,_⟩:=hB.kept hk;obtain⟨dd,oo,ty,po,af,gu⟩:=o;simp only at hp;subst hp;go_simp) h
theorem ac9 (i:Nat) {b L c k:Nat} (hS:Sl a N l) (hk:k<L) (h: ∀a',Sl a' N ((d,.pointer (some ⟨b,k,none⟩))::l)->GA f ops kk R n (listed.setIfInBounds i true) a' w)
  (ho:ops[i]? =some o:=by rfl) (hw:Region.wanted o (yielded ops a.tmps)=true:=by rfl) (hdst:o.dst=some d:=by rfl) (hd:d<N:=by decide) (hn:(l.map (·.1)).contains d=false:=by rfl) (hsel:Region.noSelect ops=true:=by kernel_rfl) (hf:Region.free .any ops listed i=true:=by kernel_rfl) (hc:(Region.ready .any ops listed).contains i=true:=by kernel_rfl) (hp:o.op= .indexAddr 27 (.tmp s) (.tmp t):=by rfl) (hs:a.tmps[s]?.getD ud= .slice (some ⟨b,0,none⟩) L c:=by have h:=(‹Sl _ _ _›).2.2;simp only[SlA] at h;simp only[h]) (ht:a.tmps[t]?.getD ud= .int .i64 (k:Int):=by have h:=(‹Sl _ _ _›).2.2;simp only[SlA] at h;simp only[h]):GA f ops kk R (n+1) listed a w:=acr hS ho hw hdst hd hn hsel hf hc (fun u hk=>by
   have hki:(k:Int)<(L:Int):=by omega
   obtain⟨dd,oo,ty,po,af,gu⟩:=o;simp only at hp;subst hp;go_simp) h
theorem ada (i:Nat) {b k:Nat} {x:Int} (hS:Sl a N l) (hc0:w.cell? ⟨b,k,none⟩=some (.int .i64 x)) (h: ∀a',Sl a' N ((d,.int .i64 x)::l)->GA f ops kk R n (listed.setIfInBounds i true) a' w)
  (ho:ops[i]? =some o:=by rfl) (hw:Region.wanted o (yielded ops a.tmps)=true:=by rfl) (hdst:o.dst=some d:=by rfl) (hd:d<N:=by decide) (hn:(l.map (·.1)).contains d=false:=by rfl) (hsel:Region.noSelect ops=true:=by kernel_rfl) (hf:Region.free .any ops listed i=true:=by kernel_rfl) (hc:(Region.ready .any ops listed).contains i=true:=by kernel_rfl) (hp:o.op= .load 3 (.tmp s):=by rfl) (hs:a.tmps[s]?.getD ud= .pointer (some ⟨b,k,none⟩):=by have h:=(‹Sl _ _ _›).2.2;simp only[SlA] at h;simp only[h]):GA f ops kk R (n+1) listed a w:=acr hS ho hw hdst hd hn hsel hf hc (fun u hk=>by
   have hc1:=dV hk (nR _) hc0;obtain⟨dd,oo,ty,po,af,gu⟩:=o;simp only at hp;subst hp;go_simp) h
theorem adb (i:Nat) {b1:Nat} {V:BkV} {B:Bk} (hS:Sl a N l) (hB:dL w b1 V B) (h: ∀a',Sl a' N ((d,.pointer (some ⟨b1,0,none⟩))::l)->GA f ops kk R n (listed.setIfInBounds i true) a' w)
  (ho:ops[i]? =some o:=by rfl) (hw:Region.wanted o (yielded ops a.tmps)=true:=by rfl) (hdst:o.dst=some d:=by rfl) (hd:d<N:=by decide) (hn:(l.map (·.1)).contains d=false:=by rfl) (hsel:Region.noSelect ops=true:=by kernel_rfl) (hf:Region.free .any ops listed i=true:=by kernel_rfl) (hc:(Region.ready .any ops listed).contains i=true:=by kernel_rfl) (hp:o.op= .fieldAddr 26 (.tmp s) 0:=by rfl) (hs:a.tmps[s]?.getD ud= .pointer (some ⟨b1,0,none⟩):=by have h:=(‹Sl _ _ _›).2.2;simp only[SlA] at h;simp only[h]):GA f ops kk R (n+1) listed a w:=acr hS ho hw hdst hd hn hsel hf hc (fun u hk=>by
   have c0:=(hB.kept hk).c0;obtain⟨dd,oo,ty,po,af,gu⟩:=o;simp only at hp;subst hp;go_simp) h
theorem ade (i:Nat) {b1:Nat} {V:BkV} {B:Bk} (hS:Sl a N l) (hB:dL w b1 V B) (h: ∀a',Sl a' N ((d,.pointer (some ⟨b1,1,none⟩))::l)->GA f ops kk R n (listed.setIfInBounds i true) a' w)
  (ho:ops[i]? =some o:=by rfl) (hw:Region.wanted o (yielded ops a.tmps)=true:=by rfl) (hdst:o.dst=some d:=by rfl) (hd:d<N:=by decide) (hn:(l.map (·.1)).contains d=false:=by rfl) (hsel:Region.noSelect ops=true:=by kernel_rfl) (hf:Region.free .any ops listed i=true:=by kernel_rfl) (hc:(Region.ready .any ops listed).contains i=true:=by kernel_rfl) (hp:o.op= .fieldAddr 26 (.tmp s) 1:=by rfl) (hs:a.tmps[s]?.getD ud= .pointer (some ⟨b1,0,none⟩):=by have h:=(‹Sl _ _ _›).2.2;simp only[SlA] at h;simp only[h]):GA f ops kk R (n+1) listed a w:=acr hS ho hw hdst hd hn hsel hf hc (fun u hk=>by
   have c0:=(hB.kept hk).c0;obtain⟨dd,oo,ty,po,af,gu⟩:=o;simp only at hp;subst hp;go_simp) h
theorem adf (i:Nat) {b1:Nat} {V:BkV} {B:Bk} (hS:Sl a N l) (hB:dL w b1 V B) (h: ∀a',Sl a' N ((d,.pointer (some ⟨b1,2,none⟩))::l)->GA f ops kk R n (listed.setIfInBounds i true) a' w)
  (ho:ops[i]? =some o:=by rfl) (hw:Region.wanted o (yielded ops a.tmps)=true:=by rfl) (hdst:o.dst=some d:=by rfl) (hd:d<N:=by decide) (hn:(l.map (·.1)).contains d=false:=by rfl) (hsel:Region.noSelect ops=true:=by kernel_rfl) (hf:Region.free .any ops listed i=true:=by kernel_rfl) (hc:(Region.ready .any ops listed).contains i=true:=by kernel_rfl) (hp:o.op= .fieldAddr 26 (.tmp s) 2:=by rfl) (hs:a.tmps[s]?.getD ud= .pointer (some ⟨b1,0,none⟩):=by have h:=(‹Sl _ _ _›).2.2;simp only[SlA] at h;simp only[h]):GA f ops kk R (n+1) listed a w:=acr hS ho hw hdst hd hn hsel hf hc (fun u hk=>by
   have c0:=(hB.kept hk).c0;obtain⟨dd,oo,ty,po,af,gu⟩:=o;simp only at hp;subst hp;go_simp) h
theorem adg (i:Nat) {b1:Nat} {V:BkV} {B:Bk} (hS:Sl a N l) (hB:dL w b1 V B) (h: ∀a',Sl a' N ((d,.pointer (some ⟨b1,3,none⟩))::l)->GA f ops kk R n (listed.setIfInBounds i true) a' w)
  (ho:ops[i]? =some o:=by rfl) (hw:Region.wanted o (yielded ops a.tmps)=true:=by rfl) (hdst:o.dst=some d:=by rfl) (hd:d<N:=by decide) (hn:(l.map (·.1)).contains d=false:=by rfl) (hsel:Region.noSelect ops=true:=by kernel_rfl) (hf:Region.free .any ops listed i=true:=by kernel_rfl) (hc:(Region.ready .any ops listed).contains i=true:=by kernel_rfl) (hp:o.op= .fieldAddr 26 (.tmp s) 3:=by rfl) (hs:a.tmps[s]?.getD ud= .pointer (some ⟨b1,0,none⟩):=by have h:=(‹Sl _ _ _›).2.2;simp only[SlA] at h;simp only[h]):GA f ops kk R (n+1) listed a w:=acr hS ho hw hdst hd hn hsel hf hc (fun u hk=>by
   have c0:=(hB.kept hk).c0;obtain⟨dd,oo,ty,po,af,gu⟩:=o;simp only at hp;subst hp;go_simp) h
theorem adh (i:Nat) {b1:Nat} {V:BkV} {B:Bk} (hS:Sl a N l) (hB:dL w b1 V B) (h: ∀a',Sl a' N ((d,.int .i64 B.hours)::l)->GA f ops kk R n (listed.setIfInBounds i true) a' w)
  (ho:ops[i]? =some o:=by rfl) (hw:Region.wanted o (yielded ops a.tmps)=true:=by rfl) (hdst:o.dst=some d:=by rfl) (hd:d<N:=by decide) (hn:(l.map (·.1)).contains d=false:=by rfl) (hsel:Region.noSelect ops=true:=by kernel_rfl) (hf:Region.free .any ops listed i=true:=by kernel_rfl) (hc:(Region.ready .any ops listed).contains i=true:=by kernel_rfl) (hp:o.op= .load 3 (.tmp s):=by rfl) (hs:a.tmps[s]?.getD ud= .pointer (some ⟨b1,0,none⟩):=by have h:=(‹Sl _ _ _›).2.2;simp only[SlA] at h;simp only[h]):GA f ops kk R (n+1) listed a w:=acr hS ho hw hdst hd hn hsel hf hc (fun u hk=>by
   have c0:=(hB.kept hk).c0;obtain⟨dd,oo,ty,po,af,gu⟩:=o;simp only at hp;subst hp;go_simp) h
theorem adi (i:Nat) {b1:Nat} {V:BkV} {B:Bk} (hS:Sl a N l) (hB:dL w b1 V B) (h: ∀a',Sl a' N ((d,.slice V.ta B.towns.length V.tc)::l)->GA f ops kk R n (listed.setIfInBounds i true) a' w)
  (ho:ops[i]? =some o:=by rfl) (hw:Region.wanted o (yielded ops a.tmps)=true:=by rfl) (hdst:o.dst=some d:=by rfl) (hd:d<N:=by decide) (hn:(l.map (·.1)).contains d=false:=by rfl) (hsel:Region.noSelect ops=true:=by kernel_rfl) (hf:Region.free .any ops listed i=true:=by kernel_rfl) (hc:(Region.ready .any ops listed).contains i=true:=by kernel_rfl) (hp:o.op= .load 22 (.tmp s):=by rfl) (hs:a.tmps[s]?.getD ud= .pointer (some ⟨b1,1,none⟩):=by have h:=(‹Sl _ _ _›).2.2;simp only[SlA] at h;simp only[h]):GA f ops kk R (n+1) listed a w:=acr hS ho hw hdst hd hn hsel hf hc (fun u hk=>by
   have c0:=(hB.kept hk).c1;obtain⟨dd,oo,ty,po,af,gu⟩:=o;simp only at hp;subst hp;go_simp) h
theorem adk (i:Nat) {b1:Nat} {V:BkV} {B:Bk} (hS:Sl a N l) (hB:dL w b1 V B) (h: ∀a',Sl a' N ((d,.slice V.la B.links.length V.lc)::l)->GA f ops kk R n (listed.setIfInBounds i true) a' w)
  (ho:ops[i]? =some o:=by rfl) (hw:Region.wanted o (yielded ops a.tmps)=true:=by rfl) (hdst:o.dst=some d:=by rfl) (hd:d<N:=by decide) (hn:(l.map (·.1)).contains d=false:=by rfl) (hsel:Region.noSelect ops=true:=by kernel_rfl) (hf:Region.free .any ops listed i=true:=by kernel_rfl) (hc:(Region.ready .any ops listed).contains i=true:=by kernel_rfl) (hp:o.op= .load 23 (.tmp s):=by rfl) (hs:a.tmps[s]?.getD ud= .pointer (some ⟨b1,2,none⟩):=by have h:=(‹Sl _ _ _›).2.2;simp only[SlA] at h;simp only[h]):GA f ops kk R (n+1) listed a w:=acr hS ho hw hdst hd hn hsel hf hc (fun u hk=>by
   have c0:=(hB.kept hk).c2;obtain⟨dd,oo,ty,po,af,gu⟩:=o;simp only at hp;subst hp;go_simp) h
theorem adl (i:Nat) {b1:Nat} {V:BkV} {B:Bk} (hS:Sl a N l) (hB:dL w b1 V B) (h: ∀a',Sl a' N ((d,.slice V.pa B.pairs.length V.pc)::l)->GA f ops kk R n (listed.setIfInBounds i true) a' w)
  (ho:ops[i]? =some o:=by rfl) (hw:Region.wanted o (yielded ops a.tmps)=true:=by rfl) (hdst:o.dst=some d:=by rfl) (hd:d<N:=by decide) (hn:(l.map (·.1)).contains d=false:=by rfl) (hsel:Region.noSelect ops=true:=by kernel_rfl) (hf:Region.free .any ops listed i=true:=by kernel_rfl) (hc:(Region.ready .any ops listed).contains i=true:=by kernel_rfl) (hp:o.op= .load 24 (.tmp s):=by rfl) (hs:a.tmps[s]?.getD ud= .pointer (some ⟨b1,3,none⟩):=by have h:=(‹Sl _ _ _›).2.2;simp only[SlA] at h;simp only[h]):GA f ops kk R (n+1) listed a w:=acr hS ho hw hdst hd hn hsel hf hc (fun u hk=>by
   have c0:=(hB.kept hk).c3;obtain⟨dd,oo,ty,po,af,gu⟩:=o;simp only at hp;subst hp;go_simp) h
theorem adn (i:Nat) {q:Int} (hS:Sl a N l) (hq:0<=q/\q<=255) (h: ∀a',Sl a' N ((d,.int .i64 q)::l)->GA f ops kk R n (listed.setIfInBounds i true) a' w)
  (ho:ops[i]? =some o:=by rfl) (hw:Region.wanted o (yielded ops a.tmps)=true:=by rfl) (hdst:o.dst=some d:=by rfl) (hd:d<N:=by decide) (hn:(l.map (·.1)).contains d=false:=by rfl) (hsel:Region.noSelect ops=true:=by kernel_rfl) (hf:Region.free .any ops listed i=true:=by kernel_rfl) (hc:(Region.ready .any ops listed).contains i=true:=by kernel_rfl) (hp:o.op= .convert 5 3 (.tmp s):=by rfl) (hs:a.tmps[s]?.getD ud= .int .u8 q:=by have h:=(‹Sl _ _ _›).2.2;simp only[SlA] at h;simp only[h]):GA f ops kk R (n+1) listed a w:=acr hS ho hw hdst hd hn hsel hf hc (fun u hk=>by
   have hwq:IntKind.wrap .i64 q=q:=IntWalk.i64_in _ (by omega);obtain⟨dd,oo,ty,po,af,gu⟩:=o;simp only at hp;subst hp;go_simp) h
theorem ado (i:Nat) {q:Int} {m k:Nat} (hS:Sl a N l) (hq:0<=q/\q<=65535) (hn1:1<=m) (hk0:(k:Int)=q % (m:Int)) (h: ∀a',Sl a' N ((d,.int .i64 (k:Int))::l)->GA f ops kk R n (listed.setIfInBounds i true) a' w)
  (ho:ops[i]? =some o:=by rfl) (hw:Region.wanted o (yielded ops a.tmps)=true:=by rfl) (hdst:o.dst=some d:=by rfl) (hd:d<N:=by decide) (hn:(l.map (·.1)).contains d=false:=by rfl) (hsel:Region.noSelect ops=true:=by kernel_rfl) (hf:Region.free .any ops listed i=true:=by kernel_rfl) (hc:(Region.ready .any ops listed).contains i=true:=by kernel_rfl) (hp:o.op= .binOp .rem 3 (.tmp s) (.tmp t) 3:=by rfl) (hs:a.tmps[s]?.getD ud= .int .i64 q:=by have h:=(‹Sl _ _ _›).2.2;simp only[SlA] at h;simp only[h]) (ht:a.tmps[t]?.getD ud= .int .i64 (m:Int):=by have h:=(‹Sl _ _ _›).2.2;simp only[SlA] at h;simp only[h]):GA f ops kk R (n+1) listed a w:=acr hS ho hw hdst hd hn hsel hf hc (fun u hk=>by
   have h1:((q.toNat % m:Nat):Int)=(k:Int):=by rw[Int.natCast_emod,Int.toNat_of_nonneg hq.1,hk0]
   have h2:=Nat.mod_le q.toNat m;have hkn:(k:Int)<=65535:=by omega
   have hrem:Int.tmod q (m:Int)=(k:Int):=by rw[hk0];exact Int.tmod_eq_emod_of_nonneg hq.1
   have hn0: ¬m=0:=by omega
   have hnz:((m:Int)==0)=false:=by rw[beq_eq_false_iff_ne];omega
   have hwk:IntKind.wrap .i64 (k:Int)=(k:Int):=IntWalk.i64_in _ (by omega);obtain⟨dd,oo,ty,po,af,gu⟩:=o;simp only at hp;subst hp;go_simp) h
end
theorem agA (V:BkV) (B:Bk) (p:Int) (w:World) (hs:aB w V B) (hv:Vars w) (hpc:V.pa=none->V.pc=0) (h0:B.alarm=0) (hp:btw p 0 100=true) (h1:(bQ B p).alarm=1):
  Calls tP 48 #[V.val B,.int .i64 p] w fun e w'=>e= .returned (.tuple #[.agg #[.int .i64 0,.slice none 0 0,.slice none 0 0,.slice none 0 0],.int .i64 1])/\Below w.heap.size w w':=by
 obtain⟨ta,la,pa,tc,lc,pc⟩:=V;have hb0:Below w.heap.size w ((w.alloc (.cells #[.int .i64 B.hours,.slice ta B.towns.length tc,.slice la B.links.length lc,.slice pa B.pairs.length pc] 26)).alloc (.cells #[.int .i64 0,.slice none 0 0,.slice none 0 0,.slice none 0 0] 26)):=((Below.refl _ _).alloc (nR _) _).alloc (by simp) _;have HC:=lH (c78 ⟨ta,la,pa,tc,lc,pc⟩ B true _ (hs.below hb0 (nR _)) (hv.v2.below hb0 (nR _)));rw[tV,h0,jE] at HC;have HB0:=lH hb0;have Hs:=lH hs;have Hv:=lH hv;have Hpc:=lH hpc;have Hp:=lH hp;have HG:=lH (gY h0);have H1:=lH h1;have hp2:=fK hp;have hf89:=aaN;clear hs hv hb0 hpc hp h0 h1;go_enter Tryd.func48,Tryd.ntmps48
 go_wp2_with fail
 generalize hWd:(w.alloc (.cells #[.int .i64 B.hours,.slice ta B.towns.length tc,.slice la B.links.length lc,.slice pa B.pairs.length pc] 26)).alloc (.cells #[.int .i64 0,.slice none 0 0,.slice none 0 0,.slice none 0 0] 26)=W at *;have hWz:W.heap.size=w.heap.size+1+1:=by subst hWd;simp
 have HR1:Hid (tX W (w.heap.size+1)):=lH (by subst hWd;exact⟨⟨by go_simp,by go_simp,by go_simp,by go_simp⟩,by go_simp,by go_simp,by go_simp,by go_simp⟩);clear hWd;refine HC.out.mono ?_;rintro e w1 ⟨rfl,hb1⟩;have HW1:=lH hb1;clear hb1 HC
 go_wp2_with fail
 refine(c69 p 0 100 _).mono ?_;rintro e w0 ⟨rfl,rfl⟩;rw[Hp.out];have hbA:Below w1.heap.size w1 (w1.alloc (.cells #[.int .i64 B.hours,.slice ta B.towns.length tc,.slice la B.links.length lc,.slice pa B.pairs.length pc] 89)):=(Below.refl _ _).alloc (nR _) _;have HW2:=lH (HW1.out.trans (hbA.mono HW1.out.size));have hb2:=HB0.out.trans (HW2.out.mono HB0.out.size);have HC2:=lH (c86 ⟨ta,la,pa,tc,lc,pc⟩ B HG.out p hp2 _ (Hs.out.below hb2 (nR _)) Hpc.out);clear hb2 hbA
 go_wp2_with fail
 refine HC2.out.mono ?_;rintro e w2 ⟨⟨va,vl,vp,vtc,vlc,vpc⟩,O,rfl,hO,hb3⟩;have HW3:=lH (HW2.out.trans (hb3.mono HW2.out.size));have hbB:Below w2.heap.size w2 (w2.alloc (.cells #[.int .i64 B.hours,.slice va B.towns.length vtc,.slice vl B.links.length vlc,.slice vp B.pairs.length vpc] 26)):=(Below.refl _ _).alloc (nR _) _;have HO:=lH (hO.below hbB);have HW4:=lH (HW3.out.trans (hbB.mono HW3.out.size));have h19:=c19 ⟨va,vl,vp,vtc,vlc,vpc⟩ (bQ B p) _ (HO.out.inn (NI HG.out p)) (Hv.out.below (HB0.out.trans (HW4.out.mono HB0.out.size))).v2;rw[aaO,H1.out] at h19;have H19:=lH h19;clear hO hb3 hbB h19 HC2
 go_wp2_with fail
 refine H19.out.mono ?_;rintro e w4 ⟨rfl,hb5⟩;have HO5:=lH (HO.out.below hb5);have HW5:=lH (HW4.out.trans (hb5.mono HW4.out.size));have q0:=cell_below hb5 (show (w2.alloc (.cells #[.int .i64 B.hours,.slice va B.towns.length vtc,.slice vl B.links.length vlc,.slice vp B.pairs.length vpc] 26)).cell? ⟨w2.heap.size,0,none⟩=some (.int .i64 B.hours) from by go_simp) (nR _);have q1:=cell_below hb5 (show (w2.alloc (.cells #[.int .i64 B.hours,.slice va B.towns.length vtc,.slice vl B.links.length vlc,.slice vp B.pairs.length vpc] 26)).cell? ⟨w2.heap.size,1,none⟩=some (.slice va B.towns.length vtc) from by go_simp) (nR _);have q2:=cell_below hb5 (show (w2.alloc (.cells #[.int .i64 B.hours,.slice va B.towns.length vtc,.slice vl B.links.length vlc,.slice vp B.pairs.length vpc] 26)).cell? ⟨w2.heap.size,2,none⟩=some (.slice vl B.links.length vlc) from by go_simp) (nR _);have q3:=cell_below hb5 (show (w2.alloc (.cells #[.int .i64 B.hours,.slice va B.towns.length vtc,.slice vl B.links.length vlc,.slice vp B.pairs.length vpc] 26)).cell? ⟨w2.heap.size,3,none⟩=some (.slice vp B.pairs.length vpc) from by go_simp) (nR _);have hb':=ak HW5.out;obtain⟨⟨c0,c1,c2,c3⟩,f0,f1,f2,f3⟩:=HR1.out;have r0:=(hb'.1 (w.heap.size+1) 0 (by omega)).trans c0;have g0:=(hb'.2 (w.heap.size+1) 0 (by omega)).trans f0;have r1:=(hb'.1 (w.heap.size+1) 1 (by omega)).trans c1;have g1:=(hb'.2 (w.heap.size+1) 1 (by omega)).trans f1;have r2:=(hb'.1 (w.heap.size+1) 2 (by omega)).trans c2;have g2:=(hb'.2 (w.heap.size+1) 2 (by omega)).trans f2;have r3:=(hb'.1 (w.heap.size+1) 3 (by omega)).trans c3;have g3:=(hb'.2 (w.heap.size+1) 3 (by omega)).trans f3;have hlo:w.heap.size+1<(w1.alloc (.cells #[.int .i64 B.hours,.slice ta B.towns.length tc,.slice la B.links.length lc,.slice pa B.pairs.length pc] 89)).heap.size:=by have:=HW1.out.size;simp;omega
 clear hb5 H19 hb' c0 c1 c2 c3 f0 f1 f2 f3;go_wp2;have n3:w.heap.size<=w.heap.size+1:=by omega
 refine bodyPost_ret (v:= .tuple #[.agg #[.int .i64 0,.slice none 0 0,.slice none 0 0,.slice none 0 0],.int .i64 1]) (by simp[results,Tryd.results48,go_sem,r0,r1,r2,r3]) rfl ⟨rfl, ?_⟩;exact((((HB0.out.trans (HW5.out.mono HB0.out.size)).setCell (p:=⟨w.heap.size+1,0,none⟩) n3 _).setCell (p:=⟨w.heap.size+1,1,none⟩) n3 _).setCell (p:=⟨w.heap.size+1,2,none⟩) n3 _).setCell (p:=⟨w.heap.size+1,3,none⟩) n3 _
theorem bI.kept {w w':World} {n:Nat} {V:BkV} {B:Bk} {O:qZ} (h:bI w n V B O) (hk:Kept w.heap.size w w'):bI w' n V B O:=by
 have c: ∀{b o:Nat} {v:Value},w.cell? ⟨b,o,none⟩=some v->w'.cell? ⟨b,o,none⟩=some v:=fun h=>dV hk (nR _) h;have hrp:bG w' V.pa:=fun a e=>by
  obtain⟨x,t,z,h0⟩:=h.rp a e;exact⟨x,t,z,(hk.block _ (Array.getElem?_eq_some_iff.1 h0).1).trans h0⟩
 refine⟨h.ta,h.la,h.pa,h.pc,hrp,h.tc,fun i t ht=>c (h.towns i t ht),fun i L hL=> ?_,fun i L k s hL hs=> ?_,fun i p hp=> ?_,fun i p k x hp hx=> ?_,fun i p hp=> ?_,h.dis,h.lo⟩
 ·obtain⟨h0,h1,sc,h2⟩:=h.links i L hL;exact⟨c h0,c h1,sc,c h2⟩
 ·exact⟨c (h.steps i L k s hL hs).1,c (h.steps i L k s hL hs).2⟩
 ·obtain⟨h0,h1,sc,h2⟩:=h.pairs i p hp;exact⟨c h0,c h1,sc,c h2⟩
 ·exact⟨c (h.calls i p k x hp hx).1,c (h.calls i p k x hp hx).2⟩
 ·have:=h.free i p hp;exact⟨⟨Nat.lt_of_lt_of_le this.1.1 hk.size,this.1.2⟩,fun j=>by rw[hk.frozen (p:=⟨_,j,none⟩) this.1.1];exact this.2 j⟩
structure afY (w:World) (b:Nat) (V:BkV) (B:Bk):Prop where
 c0:w.cell? ⟨b,0,none⟩=some (.int .i64 B.hours)
 c1:w.cell? ⟨b,1,none⟩=some (.slice V.ta B.towns.length V.tc)
 c2:w.cell? ⟨b,2,none⟩=some (.slice V.la B.links.length V.lc)
 c3:w.cell? ⟨b,3,none⟩=some (.slice V.pa B.pairs.length V.pc)
 lt:b<w.heap.size
 fr: ∀j,w.frozen? ⟨b,j,none⟩=false
theorem afY.kept {w w':World} {b:Nat} {V:BkV} {B:Bk} (h:afY w b V B) (hk:Kept w.heap.size w w'):afY w' b V B:=
 ⟨dV hk (nR _) h.c0,dV hk (nR _) h.c1,dV hk (nR _) h.c2,dV hk (nR _) h.c3,Nat.lt_of_lt_of_le h.lt hk.size,fun j=>by rw[hk.frozen (p:=⟨b,j,none⟩) h.lt];exact h.fr j⟩
theorem afY.law {w:World} {b n:Nat} {V:BkV} {B:Bk} {O:qZ} (h:afY w b V B) (ho:bI w n V B O) (hG:Good B) (hv:Vars w):dL w b V B:=
 ⟨h.c0,h.c1,h.c2,h.c3,ho.inn (Fe hG),aaW ho (by have:=hG.fine.towns;omega) (by have:=hG.fine.links;have:=hG.fine.towns;unfold Bk.spokes at *; omega),hv⟩
section
variable {f:FuncId} {N d s t:Nat} {a:Act} {w:World} {l:List (Nat×Value)} {ops:Array Oper} {i j:Nat} {rest:List Nat} {kk:List Item} {R:Value->World->Prop} {o o2:Oper}
theorem agB (w:World) (τ:Nat->Question->Nat) (d:Nat) (x:Obj):(w.tp τ d noJ).alloc x=(w.alloc x).tp τ d noJ:=by
 unfold World.tp World.alloc;rw[vO,vO]
def afS (w:World) (b:Nat) (V:BkV) (B:Bk):World:=(((w.setCell ⟨b,0,none⟩ (.int .i64 B.hours)).setCell ⟨b,1,none⟩ (.slice V.ta B.towns.length V.tc)).setCell ⟨b,2,none⟩ (.slice V.la B.links.length V.lc)).setCell ⟨b,3,none⟩ (.slice V.pa B.pairs.length V.pc)
theorem agi (w:World) (τ:Nat->Question->Nat) (d:Nat) (b:Nat) (V:BkV) (B:Bk):afS (w.tp τ d noJ) b V B=(afS w b V B).tp τ d noJ:=by
 unfold afS;rw[Pz _ _ _ lF,Pz _ _ _ lF,Pz _ _ _ lF,Pz _ _ _ lF]
structure afU (w:World) (b:Nat):Prop where
 c:(∃v,w.cell? ⟨b,0,none⟩=some v)/\(∃v,w.cell? ⟨b,1,none⟩=some v)/\(∃v,w.cell? ⟨b,2,none⟩=some v)/\ ∃v,w.cell? ⟨b,3,none⟩=some v
 lt:b<w.heap.size
 fr: ∀j,w.frozen? ⟨b,j,none⟩=false
theorem af8 {w:World} {b:Nat} (h:afU w b) (V:BkV) (B:Bk):afY (afS w b V B) b V B:=by
 obtain⟨⟨⟨v0,c0⟩,⟨v1,c1⟩,⟨v2,c2⟩,⟨v3,c3⟩⟩,hl,hf⟩:=h;have f0:=hf 0;have f1:=hf 1;have f2:=hf 2;have f3:=hf 3;unfold afS;refine⟨by go_simp,by go_simp,by go_simp,by go_simp,by simpa using hl,fun j=> ?_⟩;rw[World.frozen?_setCell,World.frozen?_setCell,World.frozen?_setCell,World.frozen?_setCell];exact hf j
theorem af9 {n:Nat} {w w':World} {b:Nat} (h:Kept n w w') (hb:n<=b) (V:BkV) (B:Bk):Kept n w (afS w' b V B):=
 ach (ach (ach (ach h (p:=⟨b,0,none⟩) hb _) (p:=⟨b,1,none⟩) hb _) (p:=⟨b,2,none⟩) hb _) (p:=⟨b,3,none⟩) hb _
theorem agC {w:World} {n b:Nat} {V V':BkV} {B B':Bk} {O:qZ} (h:bI w n V B O) (hb:b<n):bI (afS w b V' B') n V B O:=(((h.far _ hb).far _ hb).far _ hb).far _ hb
theorem agj {w:World} {b:Nat} (h:afU w b) (τ:Nat->Question->Nat) (d:Nat):afU (w.tp τ d noJ) b:=by
 obtain⟨c,hl,hf⟩:=h;exact⟨by simpa only[bV] using c,by rw[jO];exact hl,fun j=>by rw[(jD (w:=w) (τ:=τ) (d:=d)).frozen (p:=⟨b,j,none⟩) hl];exact hf j⟩
theorem agk {o:Oper} {p q b:Nat} {V:BkV} {B:Bk} {x:World} (hp2:o.op= .store 26 (.tmp p) (.tmp q)) (hd:a.tmps[p]?.getD ud= .pointer (some ⟨b,0,none⟩)) (hs:a.tmps[q]?.getD ud=V.val B) (h:afU x b):(execOp a.eval o).run tP x= .ok .skip (afS x b V B):=by
 obtain⟨⟨⟨v0,c0⟩,⟨v1,c1⟩,⟨v2,c2⟩,⟨v3,c3⟩⟩,hl,hf⟩:=h;have f0:=hf 0;have f1:=hf 1;have f2:=hf 2;have f3:=hf 3;obtain⟨dd,oo,ty,po,af,gu⟩:=o;simp only at hp2;subst hp2;unfold BkV.val at hs;unfold afS;go_simp
theorem ag3 (S:World->Prop) (ho:ops[i]? =some o) (hw:Region.wanted o (yielded ops a.tmps)=true) (hr: ∀τ,∃w',(execOp a.eval o).run tP (w.tp τ 0 noJ)= .ok .skip w'/\S w')
  (h: ∀w',S w'->GL tP f (.inRegion ops rest::kk) R (a.put o.dst ud) w'):GL tP f (.inRegion ops (i::rest)::kk) R a w:=by
 refine Eo good (fun it b u=>it= .inRegion ops rest::kk/\b=a.put o.dst ud/\S u) (fun τ=> ?_) fun it b u ⟨e1,e2,hs⟩=>by subst e1 e2;exact h u hs
 obtain⟨w',hr',hs⟩:=hr τ;refine⟨_,_,w',⟨rfl,rfl,hs⟩,fun cc=> .one (step_lone_go ?_)⟩
 change (stepG tP true (G ((aN f).at a (.inRegion ops (i::rest)::kk)) cc) (w.tp τ 0 noJ)).bare=_
 rw[stepG_none ho hw (by intro e;cases e) hr'];rfl
theorem aga {it:List Item} {τ:Nat->Question->Nat} {d:Nat} (h:GL tP f it R a w):GL tP f it R a (w.tp τ d noJ):=
 qL (τ:=w.tape) (d:=w.drawn) (by rw[dS,dh];exact h)
theorem agb {V:BkV} {B:Bk} (hS:Sl a N l) (h: ∀a' b w',w.heap.size<=b->Kept w.heap.size w w'->afY w' b V B->Sl a' N ((d,.pointer (some ⟨b,0,none⟩))::l)->GL tP f (.inRegion ops rest::kk) R a' w') (hs:a.tmps[s]?.getD ud=V.val B)
  (ho:ops[i]? =some o:=by rfl) (ho2:ops[j]? =some o2:=by rfl) (hg:o.guard=none:=by rfl) (hg2:o2.guard=none:=by rfl) (hdst:o.dst=some d:=by rfl) (hdst2:o2.dst=none:=by rfl) (hd:d<N:=by decide) (hn:(l.map (·.1)).contains d=false:=by rfl) (hp:o.op= .alloc 26:=by rfl) (hp2:o2.op= .store 26 (.tmp d) (.tmp s):=by rfl) (hne:s≠d:=by decide):
  GL tP f (.inRegion ops (i::j::rest)::kk) R a w:=by
 have P:=kP a (d:=d) (.pointer (some ⟨w.heap.size,0,none⟩)) (by rw[hS.1];exact hd);refine LQ good (fun v u=>v= .pointer (some ⟨w.heap.size,0,none⟩)/\ ∃τ,u=(w.alloc (.cells #[.int .i64 0,.slice none 0 0,.slice none 0 0,.slice none 0 0] 26)).tp τ 0 noJ) ho (by unfold Region.wanted;rw[hg]) (fun τ=>⟨.pointer (some ⟨w.heap.size,0,none⟩),(w.tp τ 0 noJ).alloc (.cells #[.int .i64 0,.slice none 0 0,.slice none 0 0,.slice none 0 0] 26), ?_,rfl,τ,agB _ _ _ _⟩) ?_
 ·have hz:(w.tp τ 0 noJ).heap.size=w.heap.size:=jO;obtain⟨dd,oo,ty,po,af,gu⟩:=o;simp only at hp;subst hp;rw[<-hz];generalize w.tp τ 0 noJ=w1;go_simp
 rintro v u ⟨rfl,τ,rfl⟩;refine aga ?_;rw[hdst];have hS2:=hS.put hd hn (v:= .pointer (some ⟨w.heap.size,0,none⟩));have hs2:(a.put (some d) (.pointer (some ⟨w.heap.size,0,none⟩))).tmps[s]?.getD ud=V.val B:=(P.other s hne).trans hs;have hd2:(a.put (some d) (.pointer (some ⟨w.heap.size,0,none⟩))).tmps[d]?.getD ud= .pointer (some ⟨w.heap.size,0,none⟩):=P.same;have hx:afU (w.alloc (.cells #[.int .i64 0,.slice none 0 0,.slice none 0 0,.slice none 0 0] 26)) w.heap.size:=⟨⟨⟨_,by go_simp;rfl⟩,⟨_,by go_simp;rfl⟩,⟨_,by go_simp;rfl⟩,⟨_,by go_simp;rfl⟩⟩,by simp,fun j=>by go_simp⟩;have hk:Kept w.heap.size w (w.alloc (.cells #[.int .i64 0,.slice none 0 0,.slice none 0 0,.slice none 0 0] 26)):=Kept.of_below ((Below.refl _ _).alloc (nR _) _);generalize a.put (some d) (.pointer (some ⟨w.heap.size,0,none⟩))=a2 at *;generalize w.alloc (.cells #[.int .i64 0,.slice none 0 0,.slice none 0 0,.slice none 0 0] 26)=W at *;refine ag3 (fun u=> ∃τ,u=(afS W w.heap.size V B).tp τ 0 noJ) ho2 (by unfold Region.wanted;rw[hg2]) (fun τ=>⟨_,agk hp2 hd2 hs2 (agj hx τ 0),τ,agi _ _ _ _ _ _⟩) ?_;rintro u ⟨τ,rfl⟩;refine aga ?_;rw[hdst2];exact h a2 w.heap.size _ (nR _) (af9 hk (nR _) V B) (af8 hx V B) hS2
theorem agD {b:Nat} {V:BkV} {B:Bk} (hS:Sl a N l) (hx:afU w b) (h:Sl a N l->GL tP f (.inRegion ops rest::kk) R a (afS w b V B)) (hd:a.tmps[t]?.getD ud= .pointer (some ⟨b,0,none⟩)) (hs:a.tmps[s]?.getD ud=V.val B)
  (ho:ops[i]? =some o:=by rfl) (hg:o.guard=none:=by rfl) (hdst:o.dst=none:=by rfl) (hp:o.op= .store 26 (.tmp t) (.tmp s):=by rfl):
  GL tP f (.inRegion ops (i::rest)::kk) R a w:=by
 refine ag3 (fun u=> ∃τ,u=(afS w b V B).tp τ 0 noJ) ho (by unfold Region.wanted;rw[hg]) (fun τ=>⟨_,agk hp hd hs (agj hx τ 0),τ,agi _ _ _ _ _ _⟩) ?_;rintro u ⟨τ,rfl⟩;refine aga ?_;rw[hdst];exact h hS
end
theorem FN (B:Bk) (a b:Int): ∀n i,0<=B.directFrom a b n i->B.one (B.directFrom a b n i).toNat=a/\B.two (B.directFrom a b n i).toNat=b
 | 0,i,h=>by unfold Bk.directFrom at h;omega
 |n+1,i,h=>by
  unfold Bk.directFrom at h ⊢;by_cases e:B.one i=a/\B.two i=b
  ·rw[if_pos e,Int.toNat_natCast];exact e
  ·rw[if_neg e] at h ⊢; exact FN B a b n (i+1) h
theorem FP {B:Bk} {a b:Int} (h:0<=B.direct a b):B.one (B.direct a b).toNat=a/\B.two (B.direct a b).toNat=b:=FN B a b _ _ h
theorem FQ {nt hours:Int}: ∀(l:List Pr) (S:List (Int×Int)),fP nt hours S l=0->(∀x∈l,bZ S x.one x.two=false)/\ ∀(i j:Nat) (x y:Pr),i<j->l[i]? =some x->l[j]? =some y-> ¬(x.one=y.one/\x.two=y.two)
 | [],S,_=>⟨fun x hx=>(by cases hx),fun i j x y _ h=>(by cases h)⟩
 |p::l,S,h=>by
  unfold fP at h
  split at h
  ·cases h
  split at h
  ·cases h
  split at h
  ·cases h
  rename_i hm
  split at h
  ·split at h
   ·cases h
   obtain⟨h1,h2⟩:=FQ l _ h;have hs: ∀x∈l,bZ S x.one x.two=false/\ ¬(p.one=x.one/\p.two=x.two):=fun x hx=>by
    have:=h1 x hx;rw[Ce,Bool.or_eq_false_iff] at this;refine⟨this.2,fun⟨e1,e2⟩=> ?_⟩;have h3:=this.1;rw[e1,e2] at h3;simp at h3
   refine⟨fun x hx=> ?_,fun i j x y hij hx hy=> ?_⟩
   ·rcases List.mem_cons.1 hx with e |e
    ·subst e;simpa using hm
    ·exact(hs x e).1
   ·cases j with
    |zero=>omega
    |succ j=>
     rw[List.getElem?_cons_succ] at hy
     cases i with
     |zero=>cases hx;exact(hs y (List.mem_of_getElem? hy)).2
     |succ i=>exact h2 i j x y (by omega) (by simpa using hx) hy
  ·cases h
theorem Ol {B:Bk} (h:B.alarm=0) {i j:Nat} (hij:i<j) (hj:j<B.pairs.length): ¬(B.pone i=B.pone j/\B.ptwo i=B.ptwo j):=by
 obtain⟨_,_,_,h3⟩:=GX h;unfold dR at h3
 split at h3
 ·cases h3
 have hx:B.pairs[i]? =some B.pairs[i]:=lG (by omega);have hy:B.pairs[j]? =some B.pairs[j]:=lG hj;have:=(FQ _ _ h3).2 i j _ _ hij hx hy;unfold Bk.pone Bk.ptwo;rw[hx,hy];exact this
theorem Om (B:Bk) (T:Nat->Int) (n a b:Int) (out:Nat->Int) {k:Nat} (h1:k≠(a-1).toNat) (h2:k≠(b-1).toNat):B.go T n a b out k=if a≠0/\B.direct a b=k then min n (T k) else out k:=by
 unfold Bk.go;by_cases ha:a=0
 ·rw[if_pos ha,if_neg (by omega)];exact dQ _ _ h2
 ·rw[if_neg ha];rw[dQ _ _ h2,dQ _ _ h1];by_cases hk:0<=B.direct a b
  ·simp only[if_pos hk];by_cases e:B.direct a b=k
   ·rw[if_pos ⟨ha,e⟩,e,Int.toNat_natCast];simp
   ·rw[if_neg (fun h=>e h.2)];exact dQ _ _ (by omega)
  ·simp only[if_neg hk];rw[if_neg (by omega)]
theorem FT {B:Bk} (hB:B.Fine) (hA:B.alarm=0) (T c:Nat->Int) {i k:Nat} (hi:i<B.pairs.length) (h0:B.pone i≠0) (hk:B.direct (B.pone i) (B.ptwo i)=k): ∀n,i<n->n<=B.pairs.length->B.loadTo T c n k=min (c i) (T k)
 | 0,h,_=>by omega
 |n+1,h,hn=>by
  have hd:=pF B hB (B.pone i) (B.ptwo i);have he:=hB.ends n (by omega);have ht:B.spokes=B.towns.length-1:=rfl;unfold Bk.loadTo;rw[Om B T _ _ _ _ (by omega) (by omega)];by_cases e:n=i
  ·subst e;rw[if_pos ⟨h0,hk⟩]
  ·have hne: ¬(B.pone n≠0/\B.direct (B.pone n) (B.ptwo n)=k):=fun⟨_,h2⟩=>by
    have d1:=FP (B:=B) (a:=B.pone i) (b:=B.ptwo i) (by omega);have d2:=FP (B:=B) (a:=B.pone n) (b:=B.ptwo n) (by omega);rw[hk] at d1;rw[h2] at d2;exact Ol hA (show i<n by omega) (by omega) ⟨d1.1.symm.trans d2.1,d1.2.symm.trans d2.2⟩
   rw[if_neg hne];exact FT hB hA T c hi h0 hk n (by omega) (by omega)
theorem BN (B:Bk) (T T' c:Nat->Int) (h: ∀i,i<B.pairs.length->B.pone i≠0->0<=B.direct (B.pone i) (B.ptwo i)->min (c i) (T' (B.direct (B.pone i) (B.ptwo i)).toNat)=min (c i) (T (B.direct (B.pone i) (B.ptwo i)).toNat)): ∀n,n<=B.pairs.length->B.loadTo T' c n=B.loadTo T c n
 | 0,_=>rfl
 |n+1,hn=>by
  unfold Bk.loadTo;rw[BN B T T' c h n (by omega)];unfold Bk.go;by_cases ha:B.pone n=0
  ·rw[if_pos ha,if_pos ha]
  ·rw[if_neg ha,if_neg ha];by_cases hk:0<=B.direct (B.pone n) (B.ptwo n)
   ·simp only[if_pos hk];rw[h n (by omega) ha hk]
   ·simp only[if_neg hk]
theorem Oo (B:Bk) (hB:B.Fine) (T:Nat->Int) {n n' a b:Int} {out out':Nat->Int} (hn:n<=n') (h: ∀j,j<B.spokes->out j<=out' j) (hab:a≠0->1<=a/\a<b):
  ∀j,j<B.spokes->B.go T n a b out j<=B.go T n' a b out' j:=by
 intro j hj;have hj':=h j hj;unfold Bk.go;by_cases ha:a=0
 ·rw[if_pos ha,if_pos ha];unfold fup
  split
  ·rename_i e;rw[<-e];omega
  ·exact hj'
 ·rw[if_neg ha,if_neg ha];have hab:=hab ha;have hne:(a-1).toNat≠(b-1).toNat:=by omega
  by_cases hk:0<=B.direct a b
  ·simp only[if_pos hk];have hkb:=pF B hB a b;have hkk:B.spokes<=(B.direct a b).toNat:=by omega
   generalize (B.direct a b).toNat=k at *;have hjk:j≠k:=by omega
   unfold fup;simp only[if_neg (Ne.symm hne)];by_cases e1:j=(b-1).toNat
   ·rw[if_pos e1,if_pos e1,<-e1,if_neg hjk,if_neg hjk];omega
   ·rw[if_neg e1,if_neg e1];by_cases e2:j=(a-1).toNat
    ·rw[if_pos e2,if_pos e2,<-e2,if_neg hjk,if_neg hjk];omega
    ·rw[if_neg e2,if_neg e2,if_neg hjk,if_neg hjk];exact hj'
  ·simp only[if_neg hk];unfold fup;simp only[if_neg (Ne.symm hne)];by_cases e1:j=(b-1).toNat
   ·rw[if_pos e1,if_pos e1,<-e1];omega
   ·rw[if_neg e1,if_neg e1];by_cases e2:j=(a-1).toNat
    ·rw[if_pos e2,if_pos e2,<-e2];omega
    ·rw[if_neg e2,if_neg e2];exact hj'
theorem FU (B:Bk) (hB:B.Fine) (T c c':Nat->Int) (hc: ∀i,i<B.pairs.length->c i<=c' i): ∀n,n<=B.pairs.length-> ∀j,j<B.spokes->B.loadTo T c n j<=B.loadTo T c' n j
 | 0,_,_,_=>Int.le_refl _
 |n+1,hn,j,hj=>by
  unfold Bk.loadTo;have he:=hB.ends n (by omega);exact Oo B hB T (hc n (by omega)) (FU B hB T c c' hc n (by omega)) (fun h=>by omega) j hj
theorem FV {B:Bk} (hB:B.Fine) (most:Bool) (h i:Nat):B.call most h i<=B.call true h i:=by
 unfold Bk.call
 cases e:B.pairs[i]? with
 |none=>exact Int.le_refl _
 |some p=>
  simp only[Option.bind_some]
  cases e2:p.calls[h]? with
  |none=>exact Int.le_refl _
  |some x=>
   have:=(hB.calls i p e).2 h x e2
   cases most<;>simp<;>omega
theorem Oq {B:Bk} (hB:B.Fine) (T:Nat->Int) (most:Bool) (h:Nat) {j:Nat} (hj:j<B.spokes):B.inn T most h j<=B.inn T true h j:=
 FU B hB T _ _ (fun i _=>FV hB most h i) _ (nR _) j hj
theorem BO (B:Bk) (T:Nat->Int) (j:Nat): ∀n h,h<n->B.inn T true h j<=bW B T n j
 | 0,h,hh=>by omega
 |n+1,h,hh=>by
  unfold bW;by_cases e:h=n
  ·subst e;omega
  ·have:=BO B T j n h (by omega);omega
theorem FW (B:Bk) (T:Nat->Int) (j:Nat) {m:Int} (hm:0<=m): ∀n,(∀h,h<n->B.inn T true h j<=m)->bW B T n j<=m
 | 0,_=>hm
 |n+1,hh=>by
  unfold bW;have h1:=FW B T j hm n fun h a=>hh h (by omega);have h2:=hh n (by omega);omega
theorem rM (B:Bk) (T:Nat->Int) (j:Nat): ∀n,0<=bW B T n j
 | 0=>Int.le_refl _
 |n+1=>by unfold bW;have:=rM B T j n;omega
theorem FX (B:Bk) (T:Nat->Int) (j:Nat): ∀n,bW B T n j=0\/ ∃h,h<n/\bW B T n j=B.inn T true h j
 | 0=> .inl rfl
 |n+1=>by
  unfold bW;have h1:=rM B T j n;by_cases e:B.inn T true n j<=bW B T n j
  ·rcases FX B T j n with h2 |⟨h,a,b⟩
   ·left;omega
   ·right;exact⟨h,by omega,by omega⟩
  ·right;exact⟨n,by omega,by omega⟩
theorem FY (B:Bk) {T T':Nat->Int} (j:Nat): ∀n,(∀h,h<n->B.inn T' true h j=B.inn T true h j)->bW B T' n j=bW B T n j
 | 0,_=>rfl
 |n+1,hh=>by
  unfold bW;rw[FY B j n fun h a=>hh h (by omega),hh n (by omega)]
def bn (B:Bk) (T:Nat->Int) (k:Nat):Int:=min (T k) (aZ B T k)
theorem BP {B:Bk} (hB:B.Fine) (hA:B.alarm=0) (T:Nat->Int) (most:Bool) {h:Nat} (hh:h<B.hours.toNat):B.inn (bn B T) most h=B.inn T most h:=by
 refine BN B T (bn B T) _ (fun i hi h0 hk=> ?_) _ (nR _);obtain⟨k,hkk⟩: ∃k:Nat,B.direct (B.pone i) (B.ptwo i)=k:=⟨_,(Int.toNat_of_nonneg hk).symm⟩;rw[hkk,Int.toNat_natCast];have h1:=FT hB hA T (B.call true h) hi h0 hkk B.pairs.length hi (nR _);have h2:=BO B T k B.hours.toNat h hh;have h3:=FV hB most h i;unfold bn aZ;unfold Bk.inn Bk.load at h2;omega
theorem FZ (B:Bk) {T T':Nat->Int}: ∀n i c,(∀h,i<=h->h<i+n-> ∀m,(B.lackIn T' m h<0↔B.lackIn T m h<0))->aQ B T' n i c=aQ B T n i c
 | 0,_,_,_=>rfl
 |n+1,i,c,hh=>by
  unfold aQ;have h1:=hh i (nR _) (by omega) false;have h2:=hh i (nR _) (by omega) true;have e:(if 0<=B.lackIn T' true i then (0 :Int) else c)=if 0<=B.lackIn T true i then 0 else c:=by
   split<;>split<;>first |rfl |omega
  rw[e,FZ B n (i+1) _ fun h a b=>hh h (by omega) (by omega)]
  split<;>split<;>first |rfl |omega
theorem Ot {B:Bk} (hB:B.Fine) (hA:B.alarm=0) (T:Nat->Int) (m:Bool) {h:Nat} (hh:h<B.hours.toNat):B.lackIn (bn B T) m h<0↔B.lackIn T m h<0:=by
 rw[vC,vC,BP hB hA T m hh];have hp: ∀j,j<B.spokes->B.inn T m h j<=aZ B T j:=fun j hj=>by
  have h1:=BO B T j _ h hh;have h2:=Oq hB T m h hj;unfold aZ;omega
 refine⟨fun q j hj=> ?_,fun q j hj=> ?_⟩<;>have h1:=q j hj<;>have h2:=hp j hj<;>unfold bn at * <;>omega
theorem Ou {B:Bk} (hB:B.Fine) (hA:B.alarm=0) (T:Nat->Int) (c:Int):aQ B (bn B T) B.hours.toNat 0 c=aQ B T B.hours.toNat 0 c:=
 FZ B _ _ _ fun _ _ hh m=>Ot hB hA T m (by omega)
theorem Ov {B:Bk} (hB:B.Fine) (hA:B.alarm=0) (T:Nat->Int) (k:Nat):aZ B (bn B T) k=aZ B T k:=
 FY B k _ fun _ hh=>congrFun (BP hB hA T true hh) k
theorem Ox {B:Bk} (hB:B.Fine) (hA:B.alarm=0) (T:Nat->Int) (k:Nat):ig B (bn B T) k=0:=by
 unfold ig;rw[Ov hB hA];unfold bn;omega
theorem Oy {B:Bk} (hB:B.Fine) (hA:B.alarm=0) {T:Nat->Int} (h1:aQ B T B.hours.toNat 0 1=1) {k:Nat} (hT0:0<=T k) (hk:k<B.spokes) (h0:bn B T k≠0):aQ B (fup (bn B T) k (bn B T k-1)) B.hours.toNat 0 1≠1:=by
 intro hc;rw[Og] at h1 hc;have hpk:aZ B T k<=T k:=FW B T k hT0 _ fun h hh=>(vC B T true h).1 (h1.2 h (Nat.zero_le _) (by omega)).2 k hk;have hsame: ∀h,B.inn (fup (bn B T) k (bn B T k-1)) true h=B.inn (bn B T) true h:=fun h=>by
  refine BN B _ _ _ (fun i hi hp hd=> ?_) _ (nR _);have:=pF B hB (B.pone i) (B.ptwo i);rw[dQ _ _ (by omega)]
 have hT: ∀h,h<B.hours.toNat->B.inn T true h k<=bn B T k-1:=fun h hh=>by
  have h2:=(vC B _ true h).1 (hc.2 h (Nat.zero_le _) (by omega)).2 k hk;rw[hsame h,BP hB hA T true hh,BZ] at h2;exact h2
 rcases FX B T k B.hours.toNat with e |⟨h,hh,e⟩
 ·unfold bn aZ at *;omega
 ·have h2:=hT h hh;unfold bn aZ at *;omega
end Go.Proofs.YtaikibfkggglgaaDoor
