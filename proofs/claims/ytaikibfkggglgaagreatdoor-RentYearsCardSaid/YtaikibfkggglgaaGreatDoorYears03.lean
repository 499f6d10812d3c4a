/- A part of the proof of a law; no conditions of its own. -/
import Derived.Test.YtaikibfkggglgaaGreatDoorYears02
import Derived.Test.YtaikibfkggglgaaGreatDoorW26
import Derived.Laws.MakeOwn
open Go renaming Addr→aD, Value→vL, World→wD
open Go.RowKit renaming Below→bX
open Go.IntKind renaming i64→qi
open Go.Value renaming int→iN, slice→sL, pointer→pN
set_option maxRecDepth 100000
open Nat renaming le_refl→nR
open Go.Lib renaming hid→lH
open Go.RowKit.Below renaming refl→bR
open Go.Proofs.Tryz renaming prog→tP
open List renaming getElem?_eq_getElem→lG
open Go.World renaming cell?_setCell_other→wO
open Go.World renaming cell?_setCell_far→wF
open List renaming getD_eq_getElem?_getD→lD
set_option maxHeartbeats 4000000
namespace Go.Proofs.YtaikibfkggglgaaGreatDoor
open Go.RowKit Go.Rent Go.Tp Go.Conc
section
variable {P:Program} {ops:Array Oper} {Q:Exit->Act->wD->Prop} {z:Nat}
def Ywo (P:Program) (ops:Array Oper) (o:Oper) (v:vL) (a:Act) (w:wD):Prop:=
 (Region.wanted o (yielded ops a.tmps)=true/\(execOp a.eval o).run P w= .ok (.value v) w)\/(Region.wanted o (yielded ops a.tmps)=false/\v=undef)
theorem Ywo.wpOp {i:Nat} {o:Oper} {v:vL} {a:Act} {w:wD} (hi:ops[i]? =some o) (hy:Ywo P ops o v a w) {K:Act->wD->Prop} (h:K (a.put o.dst v) w):wpOp P ops Q i K a w:=by
 unfold Go.wpOp;simp only[hi]
 rcases hy with ⟨hw,hv⟩ |⟨hw,rfl⟩
 ·simp only[hw,if_true,Oper.wp,hv,Oper.upon];exact .inl h
 ·simp only[hw,Bool.false_eq_true,if_false];exact h
def LaB (P:Program) (ops:Array Oper) (Q:Exit->Act->wD->Prop) (z:Nat):Nat->Array Bool->Act->wD->Prop
 | 0,listed,a,w=>Region.ready .any ops listed= [z]/\Region.ready .any ops (listed.setIfInBounds z true)= []/\wpOp P ops Q z (fun a' w'=>Q .normal a' w') a w
 |n+1,listed,a,w=>Region.ready .any ops listed≠ []/\ ∀i∈Region.ready .any ops listed,∃o v,ops[i]? =some o/\Ywo P ops o v a w/\LaB P ops Q z n (listed.setIfInBounds i true) (a.put o.dst v) w
theorem ahf: ∀(n:Nat) (listed:Array Bool) (a:Act) (w:wD),LaB P ops Q z n listed a w->wpAny P .any ops Q (n+1) listed a w
  | 0,_,_,_,h=>⟨fun e=>(by rw[h.1] at e;cases e),fun i hi=>by
      rw[h.1,List.mem_singleton] at hi;subst hi;exact wpOp_mono (fun a' w' hq=>⟨h.2.1,hq⟩) h.2.2⟩
  |n+1,_,_,_,h=>⟨fun e=>absurd e h.1,fun i hi=>by
      obtain⟨o,v,ho,hy,h2⟩:=h.2 i hi;exact hy.wpOp ho (ahf n _ _ _ h2)⟩
def ahc (ops:Array Oper) (z:Nat):Bool:=(List.range ops.size).all fun j=>j==z||((ops[z]?).map fun o=>o.after.any fun e=>Region.binds .any e&&e.on==j).getD false
theorem ahm {i:Nat} {oi:Oper} {v:vL} (hi:ops[i]? =some oi) (hsel: ∀(j:Nat) (o:Oper) cs b,ops[j]? =some o->o.op≠ .select cs b) (hz:ahc ops z=true) (hiz:i≠z):
    ∀(n:Nat) (listed:Array Bool) (a:Act) (w:wD),
      (∀j oj,ops[j]? =some oj->j≠i->listed.getD j true=false->(∀e∈oj.after,Region.binds .any e=true->e.on≠i)->oi.apart ops oj=true)->
      i∈Region.ready .any ops listed->Ywo P ops oi v a w->LaB P ops Q z n (listed.setIfInBounds i true) (a.put oi.dst v) w->LaB P ops Q z (n+1) listed a w:=by
  intro n
  induction n with
  |zero=>
    intro listed a w _ hr hy H;refine⟨fun h=>(by rw[h] at hr;cases hr),fun j hj=> ?_⟩;by_cases hji:j=i
    · subst hji;exact⟨oi,v,hi,hy,H⟩
    · exfalso
      have h1:=ready_mono hj hji;rw[H.1,List.mem_singleton] at h1;subst h1;obtain⟨_,ozz,hoz,hall⟩:=mem_ready.1 hj;have hil:i<ops.size:=(Array.getElem?_eq_some_iff.1 hi).1;unfold ahc at hz;rw[List.all_eq_true] at hz;have h2:=hz i (List.mem_range.2 hil);rw[hoz] at h2;simp only[Option.map_some,Option.getD_some,Bool.or_eq_true,beq_iff_eq] at h2
      rcases h2 with h2 |h2
      · exact hiz h2
      · rw[Array.any_eq_true] at h2
        obtain⟨k,hk,h3⟩:=h2;simp only[Bool.and_eq_true,beq_iff_eq] at h3;have h4:=hall _ (Array.getElem_mem hk) h3.1;rw[h3.2] at h4;have h5:=(mem_ready.1 hr).1
        rcases Nat.lt_or_ge i listed.size with h' |h'
        · simp[h'] at h4 h5;rw[h5] at h4;cases h4
        · simp[Array.getElem?_eq_none h'] at h4
  |succ n ih=>
    intro listed a w hfree hr hy H;refine⟨fun h=>(by rw[h] at hr;cases hr),fun j hj=> ?_⟩;by_cases hji:j=i
    · subst hji;exact⟨oi,v,hi,hy,H⟩
    · obtain⟨oj',vj,hoj',hyj,H2⟩:=H.2 j (ready_mono hj hji)
      obtain⟨hjun,oj,hoj,hall⟩:=mem_ready.1 hj;have e1:oj'=oj:=Option.some.inj (hoj'.symm.trans hoj);rw[e1] at hyj H2;have hnot: ∀e∈oj.after,Region.binds .any e=true->e.on≠i:=fun e he hb heq=>by
        have h1:=hall e he hb;have h0:=(mem_ready.1 hr).1;rw[heq] at h1
        rcases Nat.lt_or_ge i listed.size with h' |h'
        · simp[h'] at h0 h1;rw[h0] at h1;cases h1
        · simp[Array.getElem?_eq_none h'] at h1
      obtain⟨h1,h2,h3⟩:=Oper.apart_spec (hfree j oj hoj hji hjun hnot);have hyj':Ywo P ops oj vj a w:=by
        unfold Ywo at hyj ⊢;rw[wanted_put oj a oi.dst v h1,execOp_put oj (fun cs b=>hsel j oj cs b hoj) a oi.dst v h1] at hyj;exact hyj
      have hy':Ywo P ops oi v (a.put oj.dst vj) w:=by
        unfold Ywo at hy ⊢;rw[wanted_put oi a oj.dst vj h3,execOp_put oi (fun cs b=>hsel i oi cs b hi) a oj.dst vj h3];exact hy
      have hfree': ∀k ok,ops[k]? =some ok->k≠i->(listed.setIfInBounds j true).getD k true=false->
          (∀e∈ok.after,Region.binds .any e=true->e.on≠i)->oi.apart ops ok=true:=fun k ok hk hki hun hno=>by
        refine hfree k ok hk hki ?_ hno;by_cases hjk:j=k
        · subst hjk;exact hjun
        · rw[getD_set_ne true hjk] at hun;exact hun
      refine⟨oj,vj,hoj,hyj',ih (listed.setIfInBounds j true) (a.put oj.dst vj) w hfree' (ready_mono hr (Ne.symm hji)) hy' ?_⟩;rw[Array.setIfInBounds_comm _ _ hji,<-Act.put_comm a v vj h2];exact H2
theorem ag5 (i:Nat) {o:Oper} (v:vL) {n:Nat} {listed:Array Bool} {a:Act} {w:wD} (h:LaB P ops Q z n (listed.setIfInBounds i true) (a.put o.dst v) w) (ho:ops[i]? =some o:=by rfl) (hw:Region.wanted o (yielded ops a.tmps)=true:=by rfl) (hr:(execOp a.eval o).run P w= .ok (.value v) w:=by go_simp)
  (hs:Region.noSelect ops=true:=by kernel_rfl) (hf:Region.free .any ops listed i=true:=by kernel_rfl) (hc:(Region.ready .any ops listed).contains i=true:=by kernel_rfl) (hz:ahc ops z=true:=by kernel_rfl) (hiz:i≠z:=by decide):LaB P ops Q z (n+1) listed a w:=
 ahm ho (Region.noSelect_spec hs) hz hiz n listed a w (Region.free_spec ho hf) (by simpa using hc) (.inl ⟨hw,hr⟩) h
theorem ahn {id:Nat} {a:Act} {w:wD} (z n:Nat) (hm:P.follows .mixedOrders=true) (h:LaB P ops Q z n (Array.replicate (n+1) false) a {w with drawn:=w.drawn+1}) (hn:ops.size=n+1:=by rfl):(Code.region id ops true).wp P Q a w:=
 wp_region_any hm (by rw[hn];exact ahf n _ _ _ h)
end
structure LoR (w:wD) (la pa:Option aD) (B:Bk) (lc pc:Nat) (hours towns:vL) (f:Nat->Int) (wr:wD):Prop where
 below:bX w.heap.size w wr
 size:w.heap.size+2<=wr.heap.size
 b0:wr.cell? ⟨w.heap.size,0,none⟩=some hours
 b1:wr.cell? ⟨w.heap.size,1,none⟩=some towns
 b2:wr.cell? ⟨w.heap.size,2,none⟩=some (sL la B.links.length lc)
 b3:wr.cell? ⟨w.heap.size,3,none⟩=some (sL pa B.pairs.length pc)
 out: ∀j,j<B.links.length->wr.cell? ⟨w.heap.size+1,j,none⟩=some (iN qi (f j))/\wr.frozen? ⟨w.heap.size+1,j,none⟩=false
theorem LoR.step {w:wD} {la pa:Option aD} {B:Bk} {lc pc:Nat} {hours towns:vL} {f:Nat->Int} {wr w2:wD} (h:LoR w la pa B lc pc hours towns f wr) (hb:bX wr.heap.size wr w2):LoR w la pa B lc pc hours towns f w2:=by
 have hs:=h.size;obtain⟨hc,hf⟩:=ak hb;refine⟨h.below.trans (hb.mono (by omega)),Nat.le_trans h.size hb.size, ?_, ?_, ?_, ?_,fun j hj=> ?_⟩
 ·rw[hc _ _ (by omega)];exact h.b0
 ·rw[hc _ _ (by omega)];exact h.b1
 ·rw[hc _ _ (by omega)];exact h.b2
 ·rw[hc _ _ (by omega)];exact h.b3
 ·rw[hc _ _ (by omega),hf _ _ (by omega)];exact h.out j hj
theorem LoR.set {w:wD} {la pa:Option aD} {B:Bk} {lc pc:Nat} {hours towns:vL} {f:Nat->Int} {wr:wD} (h:LoR w la pa B lc pc hours towns f wr) (i:Nat) (v:Int):LoR w la pa B lc pc hours towns (fup f i v) (wr.setCell ⟨w.heap.size+1,i,none⟩ (iN qi v)):=by
 have hs:=h.size;have hne: ∀b o,b≠w.heap.size+1->(wr.setCell ⟨w.heap.size+1,i,none⟩ (iN qi v)).cell? ⟨b,o,none⟩=wr.cell? ⟨b,o,none⟩:=fun b o hb=>wO _ _ _ _ (by intro e;cases e;exact hb rfl);refine⟨h.below.trans ((bR _ _).setCell (by simp) _),by simpa using h.size, ?_, ?_, ?_, ?_,fun j hj=> ?_⟩
 ·rw[hne _ _ (by omega)];exact h.b0
 ·rw[hne _ _ (by omega)];exact h.b1
 ·rw[hne _ _ (by omega)];exact h.b2
 ·rw[hne _ _ (by omega)];exact h.b3
 ·rw[World.frozen?_setCell];refine⟨?_,(h.out j hj).2⟩;by_cases e:j=i
  ·subst e;rw[BZ];exact World.cell?_setCell_same _ _ _ (h.out j hj).1
  ·rw[dQ f v e,wO _ _ _ _ (by intro e';cases e';exact e rfl)];exact(h.out j hj).1
section
variable {f:FuncId} {ops:Array Oper} {kk:List Item} {R:vL->wD->Prop}
theorem acD {w u x:wD} (h:Kept w.heap.size w u) (k:Kept u.heap.size u x):Kept w.heap.size w x:=h.trans (k.mono h.size)
def YG (ops:Array Oper) (o:Oper) (v:vL) (a:Act) (w:wD):Prop:=
 (Region.wanted o (yielded ops a.tmps)=true/\ ∀u,Kept w.heap.size w u->(execOp a.eval o).run tP u= .ok (.value v) u)\/(Region.wanted o (yielded ops a.tmps)=false/\v=undef)
theorem YG.kept {o:Oper} {v:vL} {a:Act} {w w':wD} (h:YG ops o v a w) (hk:Kept w.heap.size w w'):YG ops o v a w':=by
 rcases h with ⟨h1,h2⟩ |h
 ·exact .inl ⟨h1,fun u hu=>h2 u (acD hk hu)⟩
 ·exact .inr h
def acv (K:vL->wD->Prop) (w:wD) (m:Sem Next):Prop:=
 (∃v,(∀τ,m.run tP (w.tp τ 0 noJ)= .ok (.value v) (w.tp τ 0 noJ))/\K v w)\/
 (∃S:vL->wD->Prop,(∀τ,∃v w',m.run tP (w.tp τ 0 noJ)= .ok (.value v) w'/\S v w')/\ ∀v w',S v w'->Kept w.heap.size w w'/\K v w')\/
 (∃g args R1,(∀u,m.run tP u= .ok (.enter g args) u)/\iK tP g args w R1/\ ∀v w',R1 v w'->Kept w.heap.size w w'/\K v w')
theorem acv.mono {w:wD} {m:Sem Next} {K K':vL->wD->Prop} (h: ∀v w',Kept w.heap.size w w'->K v w'->K' v w') (hh:acv K w m):acv K' w m:=by
 rcases hh with ⟨v,h1,h2⟩ |⟨S,h1,h2⟩ |⟨g,args,R1,h1,h2,h3⟩
 ·exact .inl ⟨v,h1,h v w (Kept.refl _ _) h2⟩
 ·exact .inr (.inl ⟨S,h1,fun v w' hv=>⟨(h2 v w' hv).1,h _ _ (h2 v w' hv).1 (h2 v w' hv).2⟩⟩)
 ·exact .inr (.inr ⟨g,args,R1,h1,h2,fun v w' hv=>⟨(h3 v w' hv).1,h _ _ (h3 v w' hv).1 (h3 v w' hv).2⟩⟩)
def OpG (ops:Array Oper) (i:Nat) (K:Act->wD->Prop) (a:Act) (w:wD):Prop:=
 match ops[i]? with
 |none=>False
 |some o=>if Region.wanted o (yielded ops a.tmps) then acv (fun v w'=>K (a.put o.dst v) w') w (execOp a.eval o) else K (a.put o.dst undef) w
theorem OpG.mono {i:Nat} {a:Act} {w:wD} {K K':Act->wD->Prop} (h: ∀a w,K a w->K' a w) (hh:OpG ops i K a w):OpG ops i K' a w:=by
 unfold OpG at *
 split
 ·simp_all
 ·rename_i o ho;simp only[ho] at hh
  split
  ·rename_i hw;simp only[hw,if_true] at hh;exact hh.mono fun _ _ _=>h _ _
  ·rename_i hw;simp only[hw] at hh;exact h _ _ hh
end
section
variable {f:FuncId} {N n d s t:Nat} {a:Act} {w:wD} {l:List (Nat×vL)} {ops:Array Oper} {listed:Array Bool} {i:Nat} {kk:List Item} {R:vL->wD->Prop} {o:Oper}
end
theorem ae4 (B:Bk) (most:Bool) (h:Nat) {i:Nat} (hi:i<B.pairs.length):trk (aey B most h B.pairs.length) i=B.call most h i:=by
 unfold trk aey;rw[lD,List.getElem?_map,List.getElem?_range hi];rfl
def carries (B:Bk) (T c:Nat->Int):Bool:=decide (B.lack (B.load T c) T<0)
theorem aeH {B:Bk} {T c:Nat->Int}:carries B T c=true↔ ∀j,j<B.spokes->B.load T c j<=T j:=by
 unfold carries Bk.lack;rw[decide_eq_true_iff,Oe];exact⟨fun hh j hj=>hh j (Nat.zero_le _) (by omega),fun hh j _ hj=>hh j (by omega)⟩
theorem aeU {w:wD} {base n:Nat} {v:vL} {xs:List Int} (hn:xs.length=n) (h:w.ownsRow base 3 1 v n (ints xs)): ∃sa cap,v= sL sa n cap/\SlI w sa xs:=by
 subst hn;by_cases h1:1<=xs.length
 ·obtain⟨b,cap,e,_,hO,_⟩:=BM h h1;exact⟨_,cap,e,hO.sl⟩
 ·obtain⟨_,⟨e,_⟩ |⟨g,cap,cur,e,_⟩⟩:=h
  ·exact⟨none,0,by rw[e,show xs.length=0 by omega],fun i x hx=>by rw[List.getElem?_eq_none (by omega)] at hx;cases hx⟩
  ·exact⟨_,cap,e,fun i x hx=>by rw[List.getElem?_eq_none (by omega)] at hx;cases hx⟩
theorem afb {xs:List Int} {k:Nat} (h:k<xs.length):xs[k]=trk xs k:=by
 unfold trk;rw[lD,lG h];rfl
section
variable {u:wD} {b1:Nat} {V:BkV} {B:Bk} {xs cs:List Int} {xa ca:Option aD} {xc cc:Nat}
end
section
variable {f:FuncId} {N n d s t:Nat} {a:Act} {w:wD} {l:List (Nat×vL)} {ops:Array Oper} {listed:Array Bool} {i:Nat} {rest:List Nat} {kk:List Item} {R:vL->wD->Prop} {o:Oper}
end
theorem alE {n j:Nat} (hj:j<n):(madeCells #[iN qi 0] n)[j]? =some (iN qi 0):=by
 rw[Array.getElem?_eq_getElem (by rw[size_madeCells];exact hj)];simp[madeCells,Nat.mod_one]
theorem LoR.drew {w:wD} {la pa:Option aD} {B:Bk} {lc pc:Nat} {hours towns:vL} {f:Nat->Int} {wr:wD} (h:LoR w la pa B lc pc hours towns f wr):LoR w la pa B lc pc hours towns f wr.drew:=⟨h.below.drew,h.size,h.b0,h.b1,h.b2,h.b3,h.out⟩
theorem c59 (V:BkV) (B:Bk) (hB:B.Fine) (xs cs:List Int) (xa ca:Option aD) (xc cc:Nat) (w:wD) (hat:bT w V B) (hx:SlI w xa xs) (hxl:xs.length=B.links.length) (hc:SlI w ca cs) (hcl:cs.length=B.pairs.length) (hT0: ∀k,0<=trk xs k/\trk xs k<=20) (hcb: ∀k,0<=trk cs k/\trk cs k<=5):
  Calls tP 122 #[V.val B,sL xa B.links.length xc,sL ca B.pairs.length cc] w fun e w'=> ∃g,e= .returned (sL (some ⟨g,0,none⟩) B.links.length B.links.length)/\w.heap.size<=g/\(∀j,j<B.links.length->w'.cell? ⟨g,j,none⟩=some (iN qi (B.load (trk xs) (trk cs) j)))/\bX w.heap.size w w':=by
 obtain⟨ta,la,pa,tc,lc,pc⟩:=V;have hl:=hB.links;have ht:=hB.towns;have hp:=hB.pairs;unfold Bk.spokes at hl;have hmk:=ZV B.links.length (by omega);go_enter Tryz.func122,Tryz.ntmps122
 go_wp2_with fail
 go_loopw [8] (fun i wr=> ∃k:Nat,k<=B.pairs.length/\i= iN qi (k:Int)/\LoR w la pa B lc pc (iN qi B.hours) (sL ta B.towns.length tc) (B.loadTo (trk xs) (trk cs) k) wr) (fun i _=>B.pairs.length-(intOf i).toNat)
 case atStart=>
  refine⟨0,Nat.zero_le _,rfl,⟨(((bR _ _).alloc (nR _) _).alloc (by simp) _),by simp,by go_simp,by go_simp,by go_simp,by go_simp,fun j hj=> ?_⟩⟩;exact⟨by go_simp;simp only[Bk.loadTo];exact alE hj,by go_simp⟩
 case round=>
  obtain⟨k,hk,rfl,hR⟩:=hrel;have hy3:=hR.b3;by_cases hlt:k<B.pairs.length
  ·have hL:B.pairs[k]? =some B.pairs[k]:=lG hlt;obtain⟨he1,he2,he3⟩:=hB.ends k hlt;have hpo:B.pone k=B.pairs[k].one:=by unfold Bk.pone;rw[hL];rfl
   have hpt:B.ptwo k=B.pairs[k].two:=by unfold Bk.ptwo;rw[hL];rfl
   obtain⟨pb,po,sa,sc,g1,g2,g3,g4,_⟩:=(hat.below hR.below (nR _)).pairs _ _ hL;simp only at g1;subst g1;rw[<-hpo] at g2;rw[<-hpt] at g3;generalize B.pairs[k].calls.length=cn at g4;have hs:=hR.size;obtain⟨cb,co,rfl,hcc⟩:=hc k _ (lG (show k<cs.length by omega));rw[afb (by omega)] at hcc;have hcw:=aoF hR.below hcc (nR _);have hf:B.loadTo (trk xs) (trk cs) (k+1)=B.go (trk xs) (trk cs k) (B.pone k) (B.ptwo k) (B.loadTo (trk xs) (trk cs) k):=rfl;have hfb:=vJ B hB (trk xs) (trk cs) (fun j=>(hT0 j).1) (fun i _=>hcb i) k (by omega);obtain⟨hc0,hc1⟩:=hcb k;generalize B.loadTo (trk xs) (trk cs) k=f at *;generalize B.pone k=a at *;generalize B.ptwo k=b at *;generalize trk cs k=n at *;have Hf:=lH hf;have Hfb:=lH hfb;have HR:=lH hR;have Hat:=lH hat;obtain⟨bj,hbj⟩: ∃j:Nat,(j:Int)=b-1:=⟨(b-1).toNat,Int.toNat_of_nonneg (by omega)⟩;have hbl:bj<B.links.length:=by omega
   have Hbt:Hid ((b-1).toNat=bj):=lH (by omega);obtain⟨o1,o2⟩:=HR.out.out bj hbl;obtain⟨fb0,fb1⟩:0<=f bj/\f bj<=30:=by have:=Hfb.out bj;omega
   have HX:=lH hx;clear hf hfb hL hpo hpt hat hc hx hR;by_cases ha:a=0
   ·subst ha
    go_wp2_with fail
    have HB2:=lH ((bR wr.heap.size wr).alloc (nR _) (.cells #[iN qi 0,iN qi b,sL sa cn sc] 56));have HR2:=lH (HR.out.step HB2.out);have p1:(wr.alloc (.cells #[iN qi 0,iN qi b,sL sa cn sc] 56)).cell? ⟨wr.heap.size,1,none⟩=some (iN qi b):=by go_simp
    have c3:=aoF HB2.out hcw (nR _);have o3:=(HR2.out.out bj hbl).1;have f3:=(HR2.out.out bj hbl).2;generalize hW:wr.alloc (.cells #[iN qi 0,iN qi b,sL sa cn sc] 56)=W at *;clear hW hcw o1 o2 hy3 g2 g3 g4;have w1:IntKind.wrap qi (b-1)=(bj:Int):=(IntWalk.i64_in _ (by omega)).trans hbj.symm;have w2:IntKind.wrap qi (f bj+n)=f bj+n:=IntWalk.i64_in _ (by omega);have hbl2:(bj:Int)<(B.links.length:Int):=by omega
    have hkl2:(k:Int)<(B.pairs.length:Int):=by omega
    have HBJ:=lH hbj;clear hbj;refine ahn 16 16 (by kernel_rfl) ?_
    change LaB _ _ _ _ _ _ _ W.drew
    refine ag5 0 (sL (some ⟨w.heap.size+1,0,none⟩) B.links.length B.links.length) ?_ (hr:=by go_simp);refine ag5 1 (pN (some ⟨wr.heap.size,1,none⟩)) ?_ (hr:=by go_simp);refine ag5 2 (iN qi b) ?_ (hr:=by go_simp);refine ag5 3 (iN qi (bj:Int)) ?_ (hr:=by go_simp);refine ag5 4 (sL (some ⟨w.heap.size+1,0,none⟩) B.links.length B.links.length) ?_ (hr:=by go_simp);refine ag5 5 (pN (some ⟨wr.heap.size,1,none⟩)) ?_ (hr:=by go_simp);refine ag5 6 (iN qi b) ?_ (hr:=by go_simp);refine ag5 7 (iN qi (bj:Int)) ?_ (hr:=by go_simp);refine ag5 8 (pN (some ⟨w.heap.size+1,bj,none⟩)) ?_ (hr:=by go_simp);refine ag5 9 (iN qi (f bj)) ?_ (hr:=by go_simp);refine ag5 10 (sL (some ⟨cb,co,none⟩) B.pairs.length cc) ?_ (hr:=by go_simp);refine ag5 11 (iN qi (k:Int)) ?_ (hr:=by go_simp);refine ag5 12 (pN (some ⟨cb,co+k,none⟩)) ?_ (hr:=by go_simp);refine ag5 13 (iN qi n) ?_ (hr:=by go_simp);refine ag5 14 (iN qi (f bj+n)) ?_ (hr:=by go_simp);refine ag5 15 (pN (some ⟨w.heap.size+1,bj,none⟩)) ?_ (hr:=by go_simp);simp only[Act.put,List.setIfInBounds_toArray];refine⟨by kernel_rfl,by kernel_rfl,wpOp_step rfl fun K hK=> ?_⟩;go_simp;refine hK _ _ ?_;clear hK;have HR6:=lH (HR2.out.set bj (f bj+n));generalize hW6:W.setCell ⟨w.heap.size+1,bj,none⟩ (iN qi (f bj+n))=W6 at *;clear hW6;go_wp2;go_roundw
    case rel=>exact⟨k+1,by omega,by go_num,by
     rw[Hf.out];unfold Bk.go;rw[if_pos rfl,Hbt.out];exact HR6.out.drew⟩
    case measure=>simp[intOf];omega
   ·have ha1:1<=a:=by omega
    obtain⟨ajj,haj⟩: ∃j:Nat,(j:Int)=a-1:=⟨(a-1).toNat,Int.toNat_of_nonneg (by omega)⟩;have hal:ajj<B.links.length:=by omega
    have Hat1:Hid ((a-1).toNat=ajj):=lH (by omega);have hdb:=pF B hB a b;have hs0:w.heap.size<wr.heap.size:=by omega
    have hcbz:=World.block_lt_of_cell? _ _ hcw;have hx10:=HR.out.b0;have hx11:=HR.out.b1;have hx12:=HR.out.b2;have HB2:=lH ((bR wr.heap.size wr).alloc (nR _) (.cells #[iN qi a,iN qi b,sL sa cn sc] 56));have HR2:=lH (HR.out.step HB2.out);have HBJ:=lH hbj;have HAJ:=lH haj;clear hbj haj
    go_wp2_with fail
    refine(c94 ⟨ta,la,some ⟨pb,po,none⟩,tc,lc,pc⟩ B hB a b _ (Hat.out.below HR2.out.below (nR _))).mono ?_;rintro e w3 ⟨rfl,hb3⟩;have HR3:=lH (HR2.out.step hb3);have q0:w3.cell? ⟨wr.heap.size,0,none⟩=some (iN qi a):=by rw[(ak hb3).1 _ _ (by simp)];go_simp
    have q1:w3.cell? ⟨wr.heap.size,1,none⟩=some (iN qi b):=by rw[(ak hb3).1 _ _ (by simp)];go_simp
    have hcw3:=aoF HR3.out.below hcc (nR _);clear hb3 hx10 hx11 hx12 hcw;unfold Bk.go at Hf;rw[if_neg ha] at Hf;generalize B.direct a b=dv at *;obtain⟨oa,oaf⟩:=HR3.out.out ajj hal;obtain⟨fa0,fa1⟩:0<=f ajj/\f ajj<=30:=by have:=Hfb.out ajj;omega
    have w1:IntKind.wrap qi (b-1)=(bj:Int):=(IntWalk.i64_in _ (by omega)).trans HBJ.out.symm;have w2:IntKind.wrap qi (a-1)=(ajj:Int):=(IntWalk.i64_in _ (by omega)).trans HAJ.out.symm;have hba: ¬bj=ajj:=by have h1:=HBJ.out;have h2:=HAJ.out;omega
    have hbl2:(bj:Int)<(B.links.length:Int):=by omega
    have hal2:(ajj:Int)<(B.links.length:Int):=by omega
    have hkl2:(k:Int)<(B.pairs.length:Int):=by omega
    rcases hdb with hdv |⟨hd0,hd1⟩
    ·subst hdv;have w3n:IntKind.wrap qi (f ajj+n)=f ajj+n:=IntWalk.i64_in _ (by omega);have w4n:IntKind.wrap qi (f bj+n)=f bj+n:=IntWalk.i64_in _ (by omega)
     go_wp2_with fail
     refine ahn 13 13 (by kernel_rfl) ?_
     change LaB _ _ _ _ _ _ _ (World.drew w3)
     refine ag5 0 (sL (some ⟨w.heap.size+1,0,none⟩) B.links.length B.links.length) ?_ (hr:=by go_simp);refine ag5 1 (pN (some ⟨wr.heap.size,0,none⟩)) ?_ (hr:=by go_simp);refine ag5 2 (iN qi a) ?_ (hr:=by go_simp);refine ag5 3 (iN qi (ajj:Int)) ?_ (hr:=by go_simp);refine ag5 4 (sL (some ⟨w.heap.size+1,0,none⟩) B.links.length B.links.length) ?_ (hr:=by go_simp);refine ag5 5 (pN (some ⟨wr.heap.size,0,none⟩)) ?_ (hr:=by go_simp);refine ag5 6 (iN qi a) ?_ (hr:=by go_simp);refine ag5 7 (iN qi (ajj:Int)) ?_ (hr:=by go_simp);refine ag5 8 (pN (some ⟨w.heap.size+1,ajj,none⟩)) ?_ (hr:=by go_simp);refine ag5 9 (iN qi (f ajj)) ?_ (hr:=by go_simp);refine ag5 10 (iN qi n) ?_ (hr:=by go_simp);refine ag5 11 (iN qi (f ajj+n)) ?_ (hr:=by go_simp);refine ag5 12 (pN (some ⟨w.heap.size+1,ajj,none⟩)) ?_ (hr:=by go_simp);simp only[Act.put,List.setIfInBounds_toArray];refine⟨by kernel_rfl,by kernel_rfl,wpOp_step rfl fun K hK=> ?_⟩;go_simp;refine hK _ _ ?_;clear hK;have HR4:=lH (HR3.out.set ajj (f ajj+n)).drew;have q1b:(w3.setCell ⟨w.heap.size+1,ajj,none⟩ (iN qi (f ajj+n))).drew.cell? ⟨wr.heap.size,1,none⟩=some (iN qi b):=(wF _ _ _ _ (show w.heap.size+1≠wr.heap.size by omega)).trans q1;generalize hW4:(w3.setCell ⟨w.heap.size+1,ajj,none⟩ (iN qi (f ajj+n))).drew=W4 at *;clear hW4 q0 q1 oa oaf;obtain⟨ob,obf⟩:=HR4.out.out bj hbl;rw[dQ _ _ hba] at ob
     go_wp2_with fail
     refine ahn 13 13 (by kernel_rfl) ?_
     change LaB _ _ _ _ _ _ _ (World.drew W4)
     refine ag5 0 (sL (some ⟨w.heap.size+1,0,none⟩) B.links.length B.links.length) ?_ (hr:=by go_simp);refine ag5 1 (pN (some ⟨wr.heap.size,1,none⟩)) ?_ (hr:=by go_simp);refine ag5 2 (iN qi b) ?_ (hr:=by go_simp);refine ag5 3 (iN qi (bj:Int)) ?_ (hr:=by go_simp);refine ag5 4 (sL (some ⟨w.heap.size+1,0,none⟩) B.links.length B.links.length) ?_ (hr:=by go_simp);refine ag5 5 (pN (some ⟨wr.heap.size,1,none⟩)) ?_ (hr:=by go_simp);refine ag5 6 (iN qi b) ?_ (hr:=by go_simp);refine ag5 7 (iN qi (bj:Int)) ?_ (hr:=by go_simp);refine ag5 8 (pN (some ⟨w.heap.size+1,bj,none⟩)) ?_ (hr:=by go_simp);refine ag5 9 (iN qi (f bj)) ?_ (hr:=by go_simp);refine ag5 10 (iN qi n) ?_ (hr:=by go_simp);refine ag5 11 (iN qi (f bj+n)) ?_ (hr:=by go_simp);refine ag5 12 (pN (some ⟨w.heap.size+1,bj,none⟩)) ?_ (hr:=by go_simp);simp only[Act.put,List.setIfInBounds_toArray];refine⟨by kernel_rfl,by kernel_rfl,wpOp_step rfl fun K hK=> ?_⟩;go_simp;refine hK _ _ ?_;clear hK;have HR6:=lH (HR4.out.set bj (f bj+n)).drew;generalize hW6:(W4.setCell ⟨w.heap.size+1,bj,none⟩ (iN qi (f bj+n))).drew=W6 at *;clear hW6;go_wp2;go_roundw
     case rel=>exact⟨k+1,by omega,by go_num,by
      rw[Hf.out,Hbt.out,Hat1.out,if_neg (by decide),if_neg (by decide),dQ _ _ hba,Int.sub_zero];exact HR6.out⟩
     case measure=>simp[intOf];omega
    ·unfold Bk.spokes at hd0;obtain⟨kd,rfl⟩:=Int.eq_ofNat_of_zero_le (show 0<=dv by omega);have hkl:kd<B.links.length:=by omega
     have hak: ¬ajj=kd:=by have h1:=HBJ.out;have h2:=HAJ.out;omega
     have hbk: ¬bj=kd:=by have h1:=HBJ.out;have h2:=HAJ.out;omega
     obtain⟨tb,tofs,rfl,htc⟩:=HX.out kd _ (lG (show kd<xs.length by omega));rw[afb (by omega)] at htc;have htk:=aoF HR3.out.below htc (nR _);have hTk:=hT0 kd;obtain⟨ok,okf⟩:=HR3.out.out kd hkl;obtain⟨m,hm⟩: ∃m,m=min n (trk xs kd):=⟨_,rfl⟩;have Hf2:Hid (B.loadTo (trk xs) (trk cs) (k+1)=fup (fup (fup f kd m) ajj (f ajj+(n-m))) bj (f bj+(n-m))):=lH (by rw[Hf.out,Hbt.out,Hat1.out];dsimp only;rw[if_pos (show (0 :Int)<=(kd:Int) by omega),if_pos (show (0 :Int)<=(kd:Int) by omega),Int.toNat_natCast,<-hm,dQ _ _ hba,dQ _ _ hak,dQ _ _ hbk]);clear Hf;generalize trk xs kd=tk at *;have hmb:0<=m/\m<=n:=by omega
     have wmin:(if tk<n then tk else n)=m:=by split<;>omega
     obtain⟨ov,hov⟩: ∃ov,ov=n-m:=⟨_,rfl⟩;rw[<-hov] at Hf2;have wov:IntKind.wrap qi (n-m)=ov:=(IntWalk.i64_in _ (by omega)).trans hov.symm;have w3n:IntKind.wrap qi (f ajj+ov)=f ajj+ov:=IntWalk.i64_in _ (by omega);have w4n:IntKind.wrap qi (f bj+ov)=f bj+ov:=IntWalk.i64_in _ (by omega);have hkl3:(kd:Int)<(B.links.length:Int):=by omega
     have HM:=lH hm;have HOV:=lH hov;clear hm hov htc
     go_wp2_with fail
     refine ahn 12 12 (by kernel_rfl) ?_
     change LaB _ _ _ _ _ _ _ (World.drew w3)
     refine ag5 0 (sL (some ⟨w.heap.size+1,0,none⟩) B.links.length B.links.length) ?_ (hr:=by go_simp);refine ag5 1 (iN qi (kd:Int)) ?_ (hr:=by go_simp);refine ag5 2 (sL (some ⟨cb,co,none⟩) B.pairs.length cc) ?_ (hr:=by go_simp);refine ag5 3 (iN qi (k:Int)) ?_ (hr:=by go_simp);refine ag5 4 (pN (some ⟨cb,co+k,none⟩)) ?_ (hr:=by go_simp);refine ag5 5 (iN qi n) ?_ (hr:=by go_simp);refine ag5 6 (sL (some ⟨tb,tofs,none⟩) B.links.length xc) ?_ (hr:=by go_simp);refine ag5 7 (iN qi (kd:Int)) ?_ (hr:=by go_simp);refine ag5 8 (pN (some ⟨tb,tofs+kd,none⟩)) ?_ (hr:=by go_simp);refine ag5 9 (iN qi tk) ?_ (hr:=by go_simp);refine ag5 10 (iN qi m) ?_ (hr:=by go_simp);refine ag5 11 (pN (some ⟨w.heap.size+1,kd,none⟩)) ?_ (hr:=by go_simp);simp only[Act.put,List.setIfInBounds_toArray];refine⟨by kernel_rfl,by kernel_rfl,wpOp_step rfl fun K hK=> ?_⟩;go_simp;refine hK _ _ ?_;clear hK;have HR4:=lH (HR3.out.set kd m).drew;have q0b:(w3.setCell ⟨w.heap.size+1,kd,none⟩ (iN qi m)).drew.cell? ⟨wr.heap.size,0,none⟩=some (iN qi a):=(wF _ _ _ _ (show w.heap.size+1≠wr.heap.size by omega)).trans q0;have q1b:(w3.setCell ⟨w.heap.size+1,kd,none⟩ (iN qi m)).drew.cell? ⟨wr.heap.size,1,none⟩=some (iN qi b):=(wF _ _ _ _ (show w.heap.size+1≠wr.heap.size by omega)).trans q1;have hcw4:=aoF HR4.out.below hcc (nR _);generalize hW4:(w3.setCell ⟨w.heap.size+1,kd,none⟩ (iN qi m)).drew=W4 at *;clear hW4 q0 q1 oa oaf ok okf hcw3 htk;have ok:=(HR4.out.out kd hkl).1;rw[BZ] at ok
     go_wp2_with fail
     refine ahn 9 9 (by kernel_rfl) ?_
     change LaB _ _ _ _ _ _ _ (World.drew W4)
     refine ag5 0 (sL (some ⟨cb,co,none⟩) B.pairs.length cc) ?_ (hr:=by go_simp);refine ag5 1 (iN qi (k:Int)) ?_ (hr:=by go_simp);refine ag5 2 (pN (some ⟨cb,co+k,none⟩)) ?_ (hr:=by go_simp);refine ag5 3 (iN qi n) ?_ (hr:=by go_simp);refine ag5 4 (sL (some ⟨w.heap.size+1,0,none⟩) B.links.length B.links.length) ?_ (hr:=by go_simp);refine ag5 5 (iN qi (kd:Int)) ?_ (hr:=by go_simp);refine ag5 6 (pN (some ⟨w.heap.size+1,kd,none⟩)) ?_ (hr:=by go_simp);refine ag5 7 (iN qi m) ?_ (hr:=by go_simp);refine ag5 8 (iN qi ov) ?_ (hr:=by go_simp);simp only[Act.put,List.setIfInBounds_toArray];refine⟨by kernel_rfl,by kernel_rfl,wpOp_step rfl fun K hK=> ?_⟩;go_simp;refine hK _ _ ?_;clear hK;have HR5:=lH HR4.out.drew;have q0c:W4.drew.cell? ⟨wr.heap.size,0,none⟩=some (iN qi a):=q0b;have q1c:W4.drew.cell? ⟨wr.heap.size,1,none⟩=some (iN qi b):=q1b;generalize hW5:W4.drew=W5 at *;clear hW5 q0b q1b ok hcw4;obtain⟨oa,oaf⟩:=HR5.out.out ajj hal;rw[dQ _ _ hak] at oa
     go_wp2_with fail
     refine ahn 13 13 (by kernel_rfl) ?_
     change LaB _ _ _ _ _ _ _ (World.drew W5)
     refine ag5 0 (sL (some ⟨w.heap.size+1,0,none⟩) B.links.length B.links.length) ?_ (hr:=by go_simp);refine ag5 1 (pN (some ⟨wr.heap.size,0,none⟩)) ?_ (hr:=by go_simp);refine ag5 2 (iN qi a) ?_ (hr:=by go_simp);refine ag5 3 (iN qi (ajj:Int)) ?_ (hr:=by go_simp);refine ag5 4 (sL (some ⟨w.heap.size+1,0,none⟩) B.links.length B.links.length) ?_ (hr:=by go_simp);refine ag5 5 (pN (some ⟨wr.heap.size,0,none⟩)) ?_ (hr:=by go_simp);refine ag5 6 (iN qi a) ?_ (hr:=by go_simp);refine ag5 7 (iN qi (ajj:Int)) ?_ (hr:=by go_simp);refine ag5 8 (pN (some ⟨w.heap.size+1,ajj,none⟩)) ?_ (hr:=by go_simp);refine ag5 9 (iN qi (f ajj)) ?_ (hr:=by go_simp);refine ag5 10 (iN qi ov) ?_ (hr:=by go_simp);refine ag5 11 (iN qi (f ajj+ov)) ?_ (hr:=by go_simp);refine ag5 12 (pN (some ⟨w.heap.size+1,ajj,none⟩)) ?_ (hr:=by go_simp);simp only[Act.put,List.setIfInBounds_toArray];refine⟨by kernel_rfl,by kernel_rfl,wpOp_step rfl fun K hK=> ?_⟩;go_simp;refine hK _ _ ?_;clear hK;have HR6:=lH (HR5.out.set ajj (f ajj+ov)).drew;have q1d:(W5.setCell ⟨w.heap.size+1,ajj,none⟩ (iN qi (f ajj+ov))).drew.cell? ⟨wr.heap.size,1,none⟩=some (iN qi b):=(wF _ _ _ _ (show w.heap.size+1≠wr.heap.size by omega)).trans q1c;generalize hW6:(W5.setCell ⟨w.heap.size+1,ajj,none⟩ (iN qi (f ajj+ov))).drew=W6 at *;clear hW6 q0c q1c oa oaf;obtain⟨ob,obf⟩:=HR6.out.out bj hbl;rw[dQ _ _ hba,dQ _ _ hbk] at ob
     go_wp2_with fail
     refine ahn 13 13 (by kernel_rfl) ?_
     change LaB _ _ _ _ _ _ _ (World.drew W6)
     refine ag5 0 (sL (some ⟨w.heap.size+1,0,none⟩) B.links.length B.links.length) ?_ (hr:=by go_simp);refine ag5 1 (pN (some ⟨wr.heap.size,1,none⟩)) ?_ (hr:=by go_simp);refine ag5 2 (iN qi b) ?_ (hr:=by go_simp);refine ag5 3 (iN qi (bj:Int)) ?_ (hr:=by go_simp);refine ag5 4 (sL (some ⟨w.heap.size+1,0,none⟩) B.links.length B.links.length) ?_ (hr:=by go_simp);refine ag5 5 (pN (some ⟨wr.heap.size,1,none⟩)) ?_ (hr:=by go_simp);refine ag5 6 (iN qi b) ?_ (hr:=by go_simp);refine ag5 7 (iN qi (bj:Int)) ?_ (hr:=by go_simp);refine ag5 8 (pN (some ⟨w.heap.size+1,bj,none⟩)) ?_ (hr:=by go_simp);refine ag5 9 (iN qi (f bj)) ?_ (hr:=by go_simp);refine ag5 10 (iN qi ov) ?_ (hr:=by go_simp);refine ag5 11 (iN qi (f bj+ov)) ?_ (hr:=by go_simp);refine ag5 12 (pN (some ⟨w.heap.size+1,bj,none⟩)) ?_ (hr:=by go_simp);simp only[Act.put,List.setIfInBounds_toArray];refine⟨by kernel_rfl,by kernel_rfl,wpOp_step rfl fun K hK=> ?_⟩;go_simp;refine hK _ _ ?_;clear hK;have HR7:=lH (HR6.out.set bj (f bj+ov)).drew;generalize hW7:(W6.setCell ⟨w.heap.size+1,bj,none⟩ (iN qi (f bj+ov))).drew=W7 at *;clear hW7;go_wp2;go_roundw
     case rel=>exact⟨k+1,by omega,by go_num,by rw[Hf2.out];exact HR7.out⟩
     case measure=>simp[intOf];omega
  ·have hke:k=B.pairs.length:=by omega
   have HR:=lH hR;have hs:=hR.size;have Hke:=lH hke;clear hke hR;go_wp2;go_ret;refine⟨w.heap.size+1,rfl,by omega,fun j hj=> ?_,HR.out.below⟩;have:=(HR.out.out j hj).1;rw[Hke.out] at this;exact this
theorem alF (B:Bk) (T c c':Nat->Int) (h: ∀i,i<B.pairs.length->c i=c' i): ∀n,n<=B.pairs.length->B.loadTo T c n=B.loadTo T c' n
 | 0,_=>rfl
 |n+1,hn=>by
  unfold Bk.loadTo;rw[alF B T c c' h n (by omega),h n (by omega)]
theorem alG (B:Bk) (T:Nat->Int) (most:Bool) (h:Nat):B.load T (trk (aey B most h B.pairs.length))=B.inn T most h:=
 alF B T _ _ (fun _ hi=>ae4 B most h hi) _ (nR _)
theorem alR (B:Bk) (xs:List Int) (most:Bool) (h:Nat):Ew B xs (aey B most h B.pairs.length)=decide (B.lackIn (trk xs) most h<0):=by
 unfold Ew Bk.lackIn;rw[alG]
theorem alH {B:Bk} {xs cs:List Int}:Ew B xs cs=true↔ ∀j,j<B.spokes->B.load (trk xs) (trk cs) j<=trk xs j:=aeH
theorem alS {B:Bk} {xs cs:List Int} {j:Nat} (hj:j<B.spokes) (h:trk xs j<B.load (trk xs) (trk cs) j):Ew B xs cs=false:=by
 cases e:Ew B xs cs with
 |false=>rfl
 |true=>have:=alH.1 e j hj;omega
def allFit (B:Bk) (T:Nat->Int):Bool:=decide (∀h,h<B.hours.toNat->B.lackIn T true h<0)
theorem alT {B:Bk} {T:Nat->Int} (h: ∀h,h<B.hours.toNat->B.lackIn T true h<0):allFit B T=true:=decide_eq_true h
theorem alU {B:Bk} {T:Nat->Int} {h:Nat} (hh:h<B.hours.toNat) (h0:0<=B.lackIn T true h):allFit B T=false:=decide_eq_false fun H=>by have:=H h hh;omega
theorem c66 (V:BkV) (B:Bk) (hB:B.Fine) (xs cs:List Int) (xa ca:Option aD) (xc cc:Nat) (w:wD) (hat:bT w V B) (hx:SlI w xa xs) (hxl:xs.length=B.links.length) (hc:SlI w ca cs) (hcl:cs.length=B.pairs.length) (hT0: ∀k,0<=trk xs k/\trk xs k<=20) (hcb: ∀k,0<=trk cs k/\trk cs k<=5):
  Calls tP 99 #[V.val B,sL xa B.links.length xc,sL ca B.pairs.length cc] w fun e w'=>e= .returned (.bool (Ew B xs cs))/\bX w.heap.size w w':=by
 obtain⟨ta,la,pa,tc,lc,pc⟩:=V;have hl:=hB.links;have ht:=hB.towns;have hsp:B.spokes=B.towns.length-1:=rfl;rw[hsp] at hl;have hb0:bX w.heap.size w (w.alloc (.cells #[iN qi B.hours,sL ta B.towns.length tc,sL la B.links.length lc,sL pa B.pairs.length pc] 26)):=(bR _ _).alloc (nR _) _;have HC:=lH (c59 ⟨ta,la,pa,tc,lc,pc⟩ B hB xs cs xa ca xc cc _ (hat.below hb0 (nR _)) (hx.below hb0 (nR _)) hxl (hc.below hb0 (nR _)) hcl hT0 hcb);have HB0:=lH hb0;have HYes:Hid ((∀j,j<B.spokes->B.load (trk xs) (trk cs) j<=trk xs j)->Ew B xs cs=true):=lH alH.2;have HNo:Hid (∀j,j<B.spokes->trk xs j<B.load (trk xs) (trk cs) j->Ew B xs cs=false):=lH fun j h1 h2=>alS h1 h2;have HX:Hid (∀u,bX w.heap.size w u-> ∀k,k<B.links.length-> ∃b o,xa=some ⟨b,o,none⟩/\u.cell? ⟨b,o+k,none⟩=some (iN qi (trk xs k))):=lH fun u hu k hk=>by
  obtain⟨b,o,e,h⟩:=(hx.below hu (nR _)) k _ (lG (show k<xs.length by omega));rw[afb (by omega)] at h;exact⟨b,o,e,h⟩
 rw[hsp] at HYes HNo;generalize Ew B xs cs=R at *;generalize B.load (trk xs) (trk cs)=f at *;generalize trk xs=T at *;generalize trk cs=C at *;have HL:=lH hl;have HT:=lH ht;clear hB hat hx hxl hc hcl hT0 hcb hsp hb0;go_enter Tryz.func99,Tryz.ntmps99
 go_wp2_with fail
 refine HC.out.mono ?_;rintro e w1 ⟨g,rfl,hg,hcell,hb1⟩;have HB1:=lH (HB0.out.trans (hb1.mono (by simp)));have H0:Hid (w1.cell? ⟨w.heap.size,0,none⟩=some (iN qi B.hours)/\w1.cell? ⟨w.heap.size,1,none⟩=some (sL ta B.towns.length tc)/\w1.cell? ⟨w.heap.size,2,none⟩=some (sL la B.links.length lc)/\w1.cell? ⟨w.heap.size,3,none⟩=some (sL pa B.pairs.length pc)):=lH (by
  obtain⟨hc,_⟩:=ak hb1;refine⟨?_, ?_, ?_, ?_⟩<;>(rw[hc _ _ (by simp)];go_simp))
 have HG:=lH hcell;clear hb1 hcell HC HB0 hg
 go_wp2_with fail
 go_loopw [8] (fun i wr=> ∃k:Nat,k<=B.towns.length-1/\i= iN qi (k:Int)/\(∀j,j<k->f j<=T j)/\bX w1.heap.size w1 wr) (fun i _=>B.towns.length-(intOf i).toNat)
 case atStart=>exact⟨0,Nat.zero_le _,rfl,fun j h=>by omega,bR _ _⟩
 case round=>
  obtain⟨k,hk,rfl,hfk,hb⟩:=hrel;obtain⟨q0,q1,q2,q3⟩:=H0.out;have p0:=aoF hb q0 (nR _);have p1:=aoF hb q1 (nR _);have p2:=aoF hb q2 (nR _);have p3:=aoF hb q3 (nR _);have Hfk:=lH hfk;have Hb:=lH hb;clear q0 q1 q2 q3 hfk hb;have hl:=HL.out;have ht:=HT.out
  go_wp2_with fail
  refine(c73 B.hours ta B.towns.length tc la B.links.length lc pa B.pairs.length pc wr (by omega) (by omega)).mono ?_;rintro e w2 ⟨rfl,hb2⟩;have HB2:=lH (Hb.out.trans (hb2.mono Hb.out.size));clear hb2 p0 p1 p2 p3;by_cases hlt:k<B.towns.length-1
  ·have hlt2:(k:Int)<((B.towns.length-1 :Nat):Int):=by omega
   have hkl:(k:Int)<(B.links.length:Int):=by omega
   obtain⟨tb,tofs,rfl,t0⟩:=HX.out w2 (HB1.out.trans (HB2.out.mono HB1.out.size)) k (by omega);have g0:=aoF HB2.out (HG.out k (by omega)) (nR _);have hno:=HNo.out k (by omega);generalize hz:f k=z at *;generalize ht9:T k=y at *;have HZ:=lH hz;have HY:=lH ht9;have hno:=lH hno;clear hz ht9;by_cases hgt:y<z
   ·have hR:=hno.out hgt;subst hR
    go_wp2_with fail
    refine aif 9 9 (fun u=>w2.drew=u) (by kernel_rfl) ?_;refine ahN 0 (sL (some ⟨g,0,none⟩) B.links.length B.links.length) (show w2.drew=w2.drew from rfl) ?_ (hr:=fun u hu=>by subst hu;go_simp);refine ahN 1 (iN qi (k:Int)) (show w2.drew=w2.drew from rfl) ?_ (hr:=fun u hu=>by subst hu;go_simp);refine ahN 2 (pN (some ⟨g,k,none⟩)) (show w2.drew=w2.drew from rfl) ?_ (hr:=fun u hu=>by subst hu;go_simp);refine ahN 3 (iN qi z) (show w2.drew=w2.drew from rfl) ?_ (hr:=fun u hu=>by subst hu;go_simp);refine ahN 4 (sL (some ⟨tb,tofs,none⟩) B.links.length xc) (show w2.drew=w2.drew from rfl) ?_ (hr:=fun u hu=>by subst hu;go_simp);refine ahN 5 (iN qi (k:Int)) (show w2.drew=w2.drew from rfl) ?_ (hr:=fun u hu=>by subst hu;go_simp);refine ahN 6 (pN (some ⟨tb,tofs+k,none⟩)) (show w2.drew=w2.drew from rfl) ?_ (hr:=fun u hu=>by subst hu;go_simp);refine ahN 7 (iN qi y) (show w2.drew=w2.drew from rfl) ?_ (hr:=fun u hu=>by subst hu;go_simp);refine ahN 8 (.bool true) (show w2.drew=w2.drew from rfl) ?_ (hr:=fun u hu=>by subst hu;go_simp);refine ahZ ?_;go_simp;go_wp2;go_ret;exact⟨rfl,HB1.out.trans (HB2.out.drew.mono HB1.out.size)⟩
   ·go_wp2_with fail
    refine aif 9 9 (fun u=>w2.drew=u) (by kernel_rfl) ?_;refine ahN 0 (sL (some ⟨g,0,none⟩) B.links.length B.links.length) (show w2.drew=w2.drew from rfl) ?_ (hr:=fun u hu=>by subst hu;go_simp);refine ahN 1 (iN qi (k:Int)) (show w2.drew=w2.drew from rfl) ?_ (hr:=fun u hu=>by subst hu;go_simp);refine ahN 2 (pN (some ⟨g,k,none⟩)) (show w2.drew=w2.drew from rfl) ?_ (hr:=fun u hu=>by subst hu;go_simp);refine ahN 3 (iN qi z) (show w2.drew=w2.drew from rfl) ?_ (hr:=fun u hu=>by subst hu;go_simp);refine ahN 4 (sL (some ⟨tb,tofs,none⟩) B.links.length xc) (show w2.drew=w2.drew from rfl) ?_ (hr:=fun u hu=>by subst hu;go_simp);refine ahN 5 (iN qi (k:Int)) (show w2.drew=w2.drew from rfl) ?_ (hr:=fun u hu=>by subst hu;go_simp);refine ahN 6 (pN (some ⟨tb,tofs+k,none⟩)) (show w2.drew=w2.drew from rfl) ?_ (hr:=fun u hu=>by subst hu;go_simp);refine ahN 7 (iN qi y) (show w2.drew=w2.drew from rfl) ?_ (hr:=fun u hu=>by subst hu;go_simp);refine ahN 8 (.bool false) (show w2.drew=w2.drew from rfl) ?_ (hr:=fun u hu=>by subst hu;go_simp);refine ahZ ?_;go_simp;have HN:Hid (∀j,j<k+1->f j<=T j):=lH fun j hj=>by
     by_cases e:j=k
     ·subst e;rw[HZ.out,HY.out];omega
     ·exact Hfk.out j (by omega)
    go_wp2;go_roundw
    case rel=>exact⟨k+1,by omega,by go_num,HN.out,HB2.out.drew⟩
    case measure=>simp[intOf];omega
  ·have hlt2: ¬(k:Int)<((B.towns.length-1 :Nat):Int):=by omega
   have hR:=HYes.out fun j hj=>Hfk.out j (by omega);subst hR;go_wp2;go_ret;exact⟨rfl,HB1.out.trans (HB2.out.mono HB1.out.size)⟩
theorem alu (V:BkV) (B:Bk) (hG:Good B) (most:Bool) {w:wD} (hs:aB w V B) (k:Nat) (hk:(k:Int)<B.hours) (u:wD) (hu:bX w.heap.size w u):
  Calls tP 100 #[V.val B,iN qi (k:Int),.bool most] u fun e u'=> ∃ea ec,e= .returned (sL ea B.pairs.length ec)/\SlI u' ea (aey B most k B.pairs.length)/\bX u.heap.size u u':=
 (c60 V B most k u (hs.below hu (nR _)) hG hk).mono fun _ _ ⟨v,e1,ho,hb⟩=>by
  obtain⟨ca,cc,e2,h⟩:=aeU (by simp[aey]) ho;subst e2;exact⟨ca,cc,e1,h,hb⟩
theorem alJ (B:Bk) (hB:B.Fine) (most:Bool) (h k:Nat):0<=trk (aey B most h B.pairs.length) k/\trk (aey B most h B.pairs.length) k<=5:=by
 by_cases hk:k<B.pairs.length
 ·rw[ae4 B most h hk];exact Gj B hB most h k
 ·unfold trk;rw[lD,List.getElem?_eq_none (by simp[aey];omega)];simp
theorem alL (V:BkV) (B:Bk) (hB:B.Fine) (most:Bool) (k:Nat) {w:wD} (hat:bT w V B) (xs:List Int) (xa:Option aD) (xc:Nat) (hx:SlI w xa xs) (hxl:xs.length=B.links.length) (hT0: ∀k,0<=trk xs k/\trk xs k<=20) (ea:Option aD) (ec:Nat) (u:wD) (hu:bX w.heap.size w u) (he:SlI u ea (aey B most k B.pairs.length)):
  Calls tP 99 #[V.val B,sL xa B.links.length xc,sL ea B.pairs.length ec] u fun e u'=>e= .returned (.bool (decide (B.lackIn (trk xs) most k<0)))/\bX u.heap.size u u':=
 (c66 V B hB xs _ xa ea xc ec u (hat.below hu (nR _)) (hx.below hu (nR _)) hxl he (by simp[aey]) hT0 (alJ B hB most k)).mono fun _ _ ⟨e1,hb⟩=>⟨by rw[e1,alR],hb⟩
theorem c65 (V:BkV) (B:Bk) (hG:Good B) (xs:List Int) (xa:Option aD) (xc:Nat) (w:wD) (hs:aB w V B) (hx:SlI w xa xs) (hxl:xs.length=B.links.length) (hT0: ∀k,0<=trk xs k/\trk xs k<=20):
  Calls tP 71 #[V.val B,sL xa B.links.length xc] w fun e w'=>e= .returned (.bool (allFit B (trk xs)))/\bX w.heap.size w w':=by
 obtain⟨ta,la,pa,tc,lc,pc⟩:=V;have hh:=hG.fine.hours;have HC60:Hid (∀(k:Nat),(k:Int)<B.hours-> ∀u,bX w.heap.size w u->Calls tP 100 #[.agg #[iN qi B.hours,sL ta B.towns.length tc,sL la B.links.length lc,sL pa B.pairs.length pc],iN qi (k:Int),.bool true] u _):=lH (fun k hk u hu=>alu ⟨ta,la,pa,tc,lc,pc⟩ B hG true hs k hk u hu);have HC66:Hid (∀(k:Nat) ea ec u,bX w.heap.size w u->SlI u ea (aey B true k B.pairs.length)->Calls tP 99 #[.agg #[iN qi B.hours,sL ta B.towns.length tc,sL la B.links.length lc,sL pa B.pairs.length pc],sL xa B.links.length xc,sL ea B.pairs.length ec] u _):=lH (fun k ea ec u hu he=>alL ⟨ta,la,pa,tc,lc,pc⟩ B hG.fine true k hs.at xs xa xc hx hxl hT0 ea ec u hu he);have HYes:Hid ((∀h,h<B.hours.toNat->B.lackIn (trk xs) true h<0)->allFit B (trk xs)=true):=lH alT;have HNo:Hid (∀h,h<B.hours.toNat->0<=B.lackIn (trk xs) true h->allFit B (trk xs)=false):=lH fun h h1 h2=>alU h1 h2;generalize allFit B (trk xs)=R at *;have HH:=lH hh;clear hG hs hx hxl hT0 hh;go_enter Tryz.func71,Tryz.ntmps71
 go_wp2_with fail
 generalize hWd:w.alloc (.cells #[iN qi B.hours,sL ta B.towns.length tc,sL la B.links.length lc,sL pa B.pairs.length pc] 26)=W;have HBW:Hid (bX w.heap.size w W):=lH (by subst hWd;exact(bR _ _).alloc (nR _) _);have HW:Hid (W.cell? ⟨w.heap.size,0,none⟩=some (iN qi B.hours)/\W.cell? ⟨w.heap.size,1,none⟩=some (sL ta B.towns.length tc)/\W.cell? ⟨w.heap.size,2,none⟩=some (sL la B.links.length lc)/\W.cell? ⟨w.heap.size,3,none⟩=some (sL pa B.pairs.length pc)):=lH (by subst hWd;exact⟨by go_simp,by go_simp,by go_simp,by go_simp⟩);have HZ:Hid (w.heap.size<W.heap.size):=lH (by subst hWd;simp);clear hWd
 go_loopw [5] (fun i wr=> ∃k:Nat,(k:Int)<=B.hours/\i= iN qi (k:Int)/\(∀h,h<k->B.lackIn (trk xs) true h<0)/\bX W.heap.size W wr) (fun i _=>B.hours.toNat-(intOf i).toNat)
 case atStart=>exact⟨0,by have:=HH.out;omega,rfl,fun j h=>by omega,bR _ _⟩
 case round=>
  obtain⟨k,hk,rfl,hfk,hb⟩:=hrel;have hh:=HH.out;have Hfk:=lH hfk;have Hb:=lH hb;clear hfk hb;have p0:=aoF Hb.out HW.out.1 (nR _);by_cases hlt:(k:Int)<B.hours
  ·have hW:bX W.heap.size W wr.drew:=Hb.out.drew;have HC: ∀u,bX W.heap.size W u->u.cell? ⟨w.heap.size,0,none⟩=some (iN qi B.hours)/\u.cell? ⟨w.heap.size,1,none⟩=some (sL ta B.towns.length tc)/\u.cell? ⟨w.heap.size,2,none⟩=some (sL la B.links.length lc)/\u.cell? ⟨w.heap.size,3,none⟩=some (sL pa B.pairs.length pc):=fun u hu=>⟨aoF hu HW.out.1 (nR _),aoF hu HW.out.2.1 (nR _),aoF hu HW.out.2.2.1 (nR _),aoF hu HW.out.2.2.2 (nR _)⟩;have hno:=HNo.out k (by omega);have HN1:Hid (B.lackIn (trk xs) true k<0-> ∀h,h<k+1->B.lackIn (trk xs) true h<0):=lH fun hl h hh=>by
    by_cases e:h=k
    ·subst e;exact hl
    ·exact Hfk.out h (by omega)
   have H66:=HC66.out k;generalize B.lackIn (trk xs) true k=y at *;have HNo1:=lH hno;clear hno
   go_wp2_with fail
   refine aif 7 7 (fun u=>bX W.heap.size W u) (by kernel_rfl) ?_;refine ahN 0 (.agg #[iN qi B.hours,sL ta B.towns.length tc,sL la B.links.length lc,sL pa B.pairs.length pc]) hW ?_ (hr:=fun u hu=>by obtain⟨c0,c1,c2,c3⟩:=HC u hu;go_simp);refine ahN 1 (sL xa B.links.length xc) hW ?_ (hr:=fun u hu=>by go_simp);refine ahN 2 (.agg #[iN qi B.hours,sL ta B.towns.length tc,sL la B.links.length lc,sL pa B.pairs.length pc]) hW ?_ (hr:=fun u hu=>by obtain⟨c0,c1,c2,c3⟩:=HC u hu;go_simp);refine ahN 3 (iN qi (k:Int)) hW ?_ (hr:=fun u hu=>by go_simp);refine ahQ 4 (h:= ?_);refine ahW (f:=100) (args:= #[.agg #[iN qi B.hours,sL ta B.towns.length tc,sL la B.links.length lc,sL pa B.pairs.length pc],iN qi (k:Int),.bool true]) (w':=wr.drew) (by go_simp) ((HC60.out k hlt wr.drew (HBW.out.trans (hW.mono HBW.out.size))).mono ?_);rintro e u1 ⟨ea,ec,rfl,he,hb1⟩;have hs1:=hW.trans (hb1.mono hW.size);refine⟨_,rfl,fun _=>hs1, ?_⟩;refine ahQ 5 (h:= ?_);refine ahW (f:=99) (args:= #[.agg #[iN qi B.hours,sL ta B.towns.length tc,sL la B.links.length lc,sL pa B.pairs.length pc],sL xa B.links.length xc,sL ea B.pairs.length ec]) (w':=u1) (by go_simp) ((H66 ea ec u1 (HBW.out.trans (hs1.mono HBW.out.size)) he).mono ?_);rintro e u2 ⟨rfl,hb2⟩;have hs2:=hs1.trans (hb2.mono hs1.size);refine⟨_,rfl,fun _=>hs2, ?_⟩;refine ahN 6 (.bool (!decide (y<0))) hs2 ?_ (hr:=fun u hu=>by go_simp);refine ahZ ?_;by_cases hy:y<0
   ·go_simp;go_wp2;go_roundw
    case rel=>exact⟨k+1,by omega,by go_num,HN1.out hy,hs2⟩
    case measure=>simp[intOf];omega
   ·have hR:=HNo1.out (by omega);subst hR;go_simp;go_wp2;go_ret;exact⟨rfl,HBW.out.trans (hs2.mono HBW.out.size)⟩
  ·have hR:=HYes.out fun h hh=>Hfk.out h (by omega);subst hR;go_wp2;go_ret;exact⟨rfl,HBW.out.trans (Hb.out.mono HBW.out.size)⟩
theorem LoR.congr {w:wD} {la pa:Option aD} {B:Bk} {lc pc:Nat} {hours towns:vL} {f g:Nat->Int} {wr:wD} (h:LoR w la pa B lc pc hours towns f wr) (e: ∀j,j<B.links.length->f j=g j):LoR w la pa B lc pc hours towns g wr:=
 ⟨h.below,h.size,h.b0,h.b1,h.b2,h.b3,fun j hj=>by rw[<-e j hj];exact h.out j hj⟩
theorem amL {w u:wD} {V:BkV} {B:Bk} (h:bX (w.heap.size+1) (w.alloc (.cells #[iN qi B.hours,sL V.ta B.towns.length V.tc,sL V.la B.links.length V.lc,sL V.pa B.pairs.length V.pc] 26)) u):
  u.cell? ⟨w.heap.size,0,none⟩=some (iN qi B.hours)/\u.cell? ⟨w.heap.size,1,none⟩=some (sL V.ta B.towns.length V.tc)/\u.cell? ⟨w.heap.size,2,none⟩=some (sL V.la B.links.length V.lc)/\u.cell? ⟨w.heap.size,3,none⟩=some (sL V.pa B.pairs.length V.pc):=by
 obtain⟨hc,_⟩:=ak h;refine⟨?_, ?_, ?_, ?_⟩<;>(rw[hc _ _ (by omega)];go_simp)
theorem r45 (V:BkV) (B:Bk) (k:Int) (w:wD) (hs:aB w V B) (hz: ∀t∈B.towns,t.size<=1000000):Calls tP 45 #[V.val B,iN qi k] w fun e w'=>e= .returned (iN qi (fF B (btw k 0 ((B.pairs.length:Int)-1))))/\bX w.heap.size w w':=by
 have hb0:bX w.heap.size w (w.alloc (.cells #[iN qi B.hours,sL V.ta B.towns.length V.tc,sL V.la B.links.length V.lc,sL V.pa B.pairs.length V.pc] 26)):=(bR _ _).alloc (nR _) _;have HCk:=lH (c20 V B _ (hs.below hb0 (nR _)) hz);have HB0:=lH hb0;clear hb0 hz;by_cases hA:B.alarm=0
 ·have hnp:=hs.np;have hw:IntKind.wrap qi ((B.pairs.length:Int)-1)=(B.pairs.length:Int)-1:=IntWalk.i64_in _ (by omega);have HR:Hid (fF B (btw k 0 ((B.pairs.length:Int)-1))=if btw k 0 ((B.pairs.length:Int)-1)=true then 0 else 6):=lH (by unfold fF;rw[if_pos hA]);rw[HR.out];rw[hA] at HCk;obtain⟨ta,la,pa,tc,lc,pc⟩:=V;simp only[BkV.val] at *;obtain⟨q,hq⟩: ∃q,q=(B.pairs.length:Int)-1:=⟨_,rfl⟩;have hw2:=hw.trans hq.symm;rw[<-hq];clear hs hA HR hw hq hnp
  cases hbt:btw k 0 q with
  |false=>
   go_enter Tryz.func45,Tryz.ntmps45
   go_wp2_with fail
   refine HCk.out.mono ?_;rintro e W ⟨rfl,hb1⟩;have HBW:=lH (HB0.out.trans (hb1.mono (by simp)));obtain⟨p0,p1,p2,p3⟩:=amL (V:=⟨ta,la,pa,tc,lc,pc⟩) (u:=W) (by simpa using hb1);clear hb1 HCk HB0
   go_wp2_with fail
   refine(gU _ _ _ _).mono ?_;rintro e w2 ⟨rfl,rfl⟩;rw[hbt];go_wp2;go_ret;exact⟨rfl,HBW.out⟩
  |true=>
   go_enter Tryz.func45,Tryz.ntmps45
   go_wp2_with fail
   refine HCk.out.mono ?_;rintro e W ⟨rfl,hb1⟩;have HBW:=lH (HB0.out.trans (hb1.mono (by simp)));obtain⟨p0,p1,p2,p3⟩:=amL (V:=⟨ta,la,pa,tc,lc,pc⟩) (u:=W) (by simpa using hb1);clear hb1 HCk HB0
   go_wp2_with fail
   refine(gU _ _ _ _).mono ?_;rintro e w2 ⟨rfl,rfl⟩;rw[hbt];go_wp2;go_ret;exact⟨rfl,HBW.out⟩
 ·have HR:Hid (fF B (btw k 0 ((B.pairs.length:Int)-1))=B.alarm):=lH (by unfold fF;rw[if_neg hA]);rw[HR.out];generalize B.alarm=al at *;clear HR;obtain⟨ta,la,pa,tc,lc,pc⟩:=V;simp only[BkV.val] at *;clear hs;go_enter Tryz.func45,Tryz.ntmps45
  go_wp2_with fail
  refine HCk.out.mono ?_;rintro e w1 ⟨rfl,hb1⟩;have HB1:=lH (HB0.out.trans (hb1.mono (by simp)));clear hb1 HCk HB0;go_wp2;go_ret;exact⟨rfl,HB1.out⟩
end Go.Proofs.YtaikibfkggglgaaGreatDoor
