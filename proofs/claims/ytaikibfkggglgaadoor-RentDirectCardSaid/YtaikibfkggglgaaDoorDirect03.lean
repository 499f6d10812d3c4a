/- A part of the proof of a law; no conditions of its own. -/
import Derived.Test.YtaikibfkggglgaaDoorDirect02
set_option maxRecDepth 100000
open Nat renaming le_refl→nR
open Go.Proofs.Tryd renaming prog→tP
open List renaming getElem?_eq_getElem→lG
open Go.World renaming block_lt_of_cell?→wBk
set_option maxHeartbeats 4000000
namespace Go.Proofs.YtaikibfkggglgaaDoor
open Go.RowKit Go.Rent Go.Tp Go.Conc
section
variable {f:FuncId} {ops:Array Oper} {kk:List Item} {R:Value->World->Prop}
theorem acD {w u x:World} (h:Kept w.heap.size w u) (k:Kept u.heap.size u x):Kept w.heap.size w x:=h.trans (k.mono h.size)
def YG (ops:Array Oper) (o:Oper) (v:Value) (a:Act) (w:World):Prop:=
 (Region.wanted o (yielded ops a.tmps)=true/\ ∀u,Kept w.heap.size w u->(execOp a.eval o).run tP u= .ok (.value v) u)\/(Region.wanted o (yielded ops a.tmps)=false/\v=undef)
theorem YG.kept {o:Oper} {v:Value} {a:Act} {w w':World} (h:YG ops o v a w) (hk:Kept w.heap.size w w'):YG ops o v a w':=by
 rcases h with ⟨h1,h2⟩ |h
 ·exact .inl ⟨h1,fun u hu=>h2 u (acD hk hu)⟩
 ·exact .inr h
def acv (K:Value->World->Prop) (w:World) (m:Sem Next):Prop:=
 (∃v,(∀τ,m.run tP (w.tp τ 0 noJ)= .ok (.value v) (w.tp τ 0 noJ))/\K v w)\/
 (∃S:Value->World->Prop,(∀τ,∃v w',m.run tP (w.tp τ 0 noJ)= .ok (.value v) w'/\S v w')/\ ∀v w',S v w'->Kept w.heap.size w w'/\K v w')\/
 (∃g args R1,(∀u,m.run tP u= .ok (.enter g args) u)/\iK tP g args w R1/\ ∀v w',R1 v w'->Kept w.heap.size w w'/\K v w')
theorem acv.mono {w:World} {m:Sem Next} {K K':Value->World->Prop} (h: ∀v w',Kept w.heap.size w w'->K v w'->K' v w') (hh:acv K w m):acv K' w m:=by
 rcases hh with ⟨v,h1,h2⟩ |⟨S,h1,h2⟩ |⟨g,args,R1,h1,h2,h3⟩
 ·exact .inl ⟨v,h1,h v w (Kept.refl _ _) h2⟩
 ·exact .inr (.inl ⟨S,h1,fun v w' hv=>⟨(h2 v w' hv).1,h _ _ (h2 v w' hv).1 (h2 v w' hv).2⟩⟩)
 ·exact .inr (.inr ⟨g,args,R1,h1,h2,fun v w' hv=>⟨(h3 v w' hv).1,h _ _ (h3 v w' hv).1 (h3 v w' hv).2⟩⟩)
def OpG (ops:Array Oper) (i:Nat) (K:Act->World->Prop) (a:Act) (w:World):Prop:=
 match ops[i]? with
 |none=>False
 |some o=>if Region.wanted o (yielded ops a.tmps) then acv (fun v w'=>K (a.put o.dst v) w') w (execOp a.eval o) else K (a.put o.dst undef) w
theorem OpG.mono {i:Nat} {a:Act} {w:World} {K K':Act->World->Prop} (h: ∀a w,K a w->K' a w) (hh:OpG ops i K a w):OpG ops i K' a w:=by
 unfold OpG at *
 split
 ·simp_all
 ·rename_i o ho;simp only[ho] at hh
  split
  ·rename_i hw;simp only[hw,if_true] at hh;exact hh.mono fun _ _ _=>h _ _
  ·rename_i hw;simp only[hw] at hh;exact h _ _ hh
end
section
variable {f:FuncId} {N n d s t:Nat} {a:Act} {w:World} {l:List (Nat×Value)} {ops:Array Oper} {listed:Array Bool} {i:Nat} {kk:List Item} {R:Value->World->Prop} {o:Oper}
end
theorem bI.kept {w w':World} {n:Nat} {V:BkV} {B:Bk} {O:qZ} (h:bI w n V B O) (hk:Kept w.heap.size w w'):bI w' n V B O:=by
 have c: ∀{b o:Nat} {v:Value},w.cell? ⟨b,o,none⟩=some v->w'.cell? ⟨b,o,none⟩=some v:=fun h=>dV hk (nR _) h;have hrp:bG w' V.pa:=fun a e=>by
  obtain⟨x,t,z,h0⟩:=h.rp a e;exact⟨x,t,z,(hk.block _ (Array.getElem?_eq_some_iff.1 h0).1).trans h0⟩
 refine⟨h.ta,h.la,h.pa,h.pc,hrp,h.tc,fun i t ht=>c (h.towns i t ht),fun i L hL=> ?_,fun i L k s hL hs=> ?_,fun i p hp=> ?_,fun i p k x hp hx=> ?_,fun i p hp=> ?_,h.dis,h.lo⟩
 ·obtain⟨h0,h1,sc,h2⟩:=h.links i L hL;exact⟨c h0,c h1,sc,c h2⟩
 ·exact⟨c (h.steps i L k s hL hs).1,c (h.steps i L k s hL hs).2⟩
 ·obtain⟨h0,h1,sc,h2⟩:=h.pairs i p hp;exact⟨c h0,c h1,sc,c h2⟩
 ·exact⟨c (h.calls i p k x hp hx).1,c (h.calls i p k x hp hx).2⟩
 ·have:=h.free i p hp;exact⟨⟨Nat.lt_of_lt_of_le this.1.1 hk.size,this.1.2⟩,fun j=>by rw[hk.frozen (p:=⟨_,j,none⟩) this.1.1];exact this.2 j⟩
structure afY (w:World) (b:Nat) (V:BkV) (B:Bk):Prop where
 c0:w.cell? ⟨b,0,none⟩=some (.int .i64 B.hours)
 c1:w.cell? ⟨b,1,none⟩=some (.slice V.ta B.towns.length V.tc)
 c2:w.cell? ⟨b,2,none⟩=some (.slice V.la B.links.length V.lc)
 c3:w.cell? ⟨b,3,none⟩=some (.slice V.pa B.pairs.length V.pc)
 lt:b<w.heap.size
 fr: ∀j,w.frozen? ⟨b,j,none⟩=false
theorem afY.kept {w w':World} {b:Nat} {V:BkV} {B:Bk} (h:afY w b V B) (hk:Kept w.heap.size w w'):afY w' b V B:=
 ⟨dV hk (nR _) h.c0,dV hk (nR _) h.c1,dV hk (nR _) h.c2,dV hk (nR _) h.c3,Nat.lt_of_lt_of_le h.lt hk.size,fun j=>by rw[hk.frozen (p:=⟨b,j,none⟩) h.lt];exact h.fr j⟩
section
variable {f:FuncId} {N d s t:Nat} {a:Act} {w:World} {l:List (Nat×Value)} {ops:Array Oper} {i j:Nat} {rest:List Nat} {kk:List Item} {R:Value->World->Prop} {o o2:Oper}
theorem agB (w:World) (τ:Nat->Question->Nat) (d:Nat) (x:Obj):(w.tp τ d noJ).alloc x=(w.alloc x).tp τ d noJ:=by
 unfold World.tp World.alloc;rw[vO,vO]
def afS (w:World) (b:Nat) (V:BkV) (B:Bk):World:=(((w.setCell ⟨b,0,none⟩ (.int .i64 B.hours)).setCell ⟨b,1,none⟩ (.slice V.ta B.towns.length V.tc)).setCell ⟨b,2,none⟩ (.slice V.la B.links.length V.lc)).setCell ⟨b,3,none⟩ (.slice V.pa B.pairs.length V.pc)
theorem agi (w:World) (τ:Nat->Question->Nat) (d:Nat) (b:Nat) (V:BkV) (B:Bk):afS (w.tp τ d noJ) b V B=(afS w b V B).tp τ d noJ:=by
 unfold afS;rw[Pz _ _ _ lF,Pz _ _ _ lF,Pz _ _ _ lF,Pz _ _ _ lF]
structure afU (w:World) (b:Nat):Prop where
 c:(∃v,w.cell? ⟨b,0,none⟩=some v)/\(∃v,w.cell? ⟨b,1,none⟩=some v)/\(∃v,w.cell? ⟨b,2,none⟩=some v)/\ ∃v,w.cell? ⟨b,3,none⟩=some v
 lt:b<w.heap.size
 fr: ∀j,w.frozen? ⟨b,j,none⟩=false
theorem af8 {w:World} {b:Nat} (h:afU w b) (V:BkV) (B:Bk):afY (afS w b V B) b V B:=by
 obtain⟨⟨⟨v0,c0⟩,⟨v1,c1⟩,⟨v2,c2⟩,⟨v3,c3⟩⟩,hl,hf⟩:=h;have f0:=hf 0;have f1:=hf 1;have f2:=hf 2;have f3:=hf 3;unfold afS;refine⟨by go_simp,by go_simp,by go_simp,by go_simp,by simpa using hl,fun j=> ?_⟩;rw[World.frozen?_setCell,World.frozen?_setCell,World.frozen?_setCell,World.frozen?_setCell];exact hf j
theorem af9 {n:Nat} {w w':World} {b:Nat} (h:Kept n w w') (hb:n<=b) (V:BkV) (B:Bk):Kept n w (afS w' b V B):=
 ach (ach (ach (ach h (p:=⟨b,0,none⟩) hb _) (p:=⟨b,1,none⟩) hb _) (p:=⟨b,2,none⟩) hb _) (p:=⟨b,3,none⟩) hb _
theorem agj {w:World} {b:Nat} (h:afU w b) (τ:Nat->Question->Nat) (d:Nat):afU (w.tp τ d noJ) b:=by
 obtain⟨c,hl,hf⟩:=h;exact⟨by simpa only[bV] using c,by rw[jO];exact hl,fun j=>by rw[(jD (w:=w) (τ:=τ) (d:=d)).frozen (p:=⟨b,j,none⟩) hl];exact hf j⟩
theorem agk {o:Oper} {p q b:Nat} {V:BkV} {B:Bk} {x:World} (hp2:o.op= .store 26 (.tmp p) (.tmp q)) (hd:a.tmps[p]?.getD undef= .pointer (some ⟨b,0,none⟩)) (hs:a.tmps[q]?.getD undef=V.val B) (h:afU x b):(execOp a.eval o).run tP x= .ok .skip (afS x b V B):=by
 obtain⟨⟨⟨v0,c0⟩,⟨v1,c1⟩,⟨v2,c2⟩,⟨v3,c3⟩⟩,hl,hf⟩:=h;have f0:=hf 0;have f1:=hf 1;have f2:=hf 2;have f3:=hf 3;obtain⟨dd,oo,ty,po,af,gu⟩:=o;simp only at hp2;subst hp2;unfold BkV.val at hs;unfold afS;go_simp
theorem ag3 (S:World->Prop) (ho:ops[i]? =some o) (hw:Region.wanted o (yielded ops a.tmps)=true) (hr: ∀τ,∃w',(execOp a.eval o).run tP (w.tp τ 0 noJ)= .ok .skip w'/\S w')
  (h: ∀w',S w'->GL tP f (.inRegion ops rest::kk) R (a.put o.dst undef) w'):GL tP f (.inRegion ops (i::rest)::kk) R a w:=by
 refine Eo good (fun it b u=>it= .inRegion ops rest::kk/\b=a.put o.dst undef/\S u) (fun τ=> ?_) fun it b u ⟨e1,e2,hs⟩=>by subst e1 e2;exact h u hs
 obtain⟨w',hr',hs⟩:=hr τ;refine⟨_,_,w',⟨rfl,rfl,hs⟩,fun cc=> .one (step_lone_go ?_)⟩
 change (stepG tP true (G ((aN f).at a (.inRegion ops (i::rest)::kk)) cc) (w.tp τ 0 noJ)).bare=_
 rw[stepG_none ho hw (by intro e;cases e) hr'];rfl
theorem aga {it:List Item} {τ:Nat->Question->Nat} {d:Nat} (h:GL tP f it R a w):GL tP f it R a (w.tp τ d noJ):=
 qL (τ:=w.tape) (d:=w.drawn) (by rw[dS,dh];exact h)
theorem agb {V:BkV} {B:Bk} (hS:Sl a N l) (h: ∀a' b w',w.heap.size<=b->Kept w.heap.size w w'->afY w' b V B->Sl a' N ((d,.pointer (some ⟨b,0,none⟩))::l)->GL tP f (.inRegion ops rest::kk) R a' w') (hs:a.tmps[s]?.getD undef=V.val B)
  (ho:ops[i]? =some o:=by rfl) (ho2:ops[j]? =some o2:=by rfl) (hg:o.guard=none:=by rfl) (hg2:o2.guard=none:=by rfl) (hdst:o.dst=some d:=by rfl) (hdst2:o2.dst=none:=by rfl) (hd:d<N:=by decide) (hn:(l.map (·.1)).contains d=false:=by rfl) (hp:o.op= .alloc 26:=by rfl) (hp2:o2.op= .store 26 (.tmp d) (.tmp s):=by rfl) (hne:s≠d:=by decide):
  GL tP f (.inRegion ops (i::j::rest)::kk) R a w:=by
 have P:=kP a (d:=d) (.pointer (some ⟨w.heap.size,0,none⟩)) (by rw[hS.1];exact hd);refine LQ good (fun v u=>v= .pointer (some ⟨w.heap.size,0,none⟩)/\ ∃τ,u=(w.alloc (.cells #[.int .i64 0,.slice none 0 0,.slice none 0 0,.slice none 0 0] 26)).tp τ 0 noJ) ho (by unfold Region.wanted;rw[hg]) (fun τ=>⟨.pointer (some ⟨w.heap.size,0,none⟩),(w.tp τ 0 noJ).alloc (.cells #[.int .i64 0,.slice none 0 0,.slice none 0 0,.slice none 0 0] 26), ?_,rfl,τ,agB _ _ _ _⟩) ?_
 ·have hz:(w.tp τ 0 noJ).heap.size=w.heap.size:=jO;obtain⟨dd,oo,ty,po,af,gu⟩:=o;simp only at hp;subst hp;rw[<-hz];generalize w.tp τ 0 noJ=w1;go_simp
 rintro v u ⟨rfl,τ,rfl⟩;refine aga ?_;rw[hdst];have hS2:=hS.put hd hn (v:= .pointer (some ⟨w.heap.size,0,none⟩));have hs2:(a.put (some d) (.pointer (some ⟨w.heap.size,0,none⟩))).tmps[s]?.getD undef=V.val B:=(P.other s hne).trans hs;have hd2:(a.put (some d) (.pointer (some ⟨w.heap.size,0,none⟩))).tmps[d]?.getD undef= .pointer (some ⟨w.heap.size,0,none⟩):=P.same;have hx:afU (w.alloc (.cells #[.int .i64 0,.slice none 0 0,.slice none 0 0,.slice none 0 0] 26)) w.heap.size:=⟨⟨⟨_,by go_simp;rfl⟩,⟨_,by go_simp;rfl⟩,⟨_,by go_simp;rfl⟩,⟨_,by go_simp;rfl⟩⟩,by simp,fun j=>by go_simp⟩;have hk:Kept w.heap.size w (w.alloc (.cells #[.int .i64 0,.slice none 0 0,.slice none 0 0,.slice none 0 0] 26)):=Kept.of_below ((Below.refl _ _).alloc (nR _) _);generalize a.put (some d) (.pointer (some ⟨w.heap.size,0,none⟩))=a2 at *;generalize w.alloc (.cells #[.int .i64 0,.slice none 0 0,.slice none 0 0,.slice none 0 0] 26)=W at *;refine ag3 (fun u=> ∃τ,u=(afS W w.heap.size V B).tp τ 0 noJ) ho2 (by unfold Region.wanted;rw[hg2]) (fun τ=>⟨_,agk hp2 hd2 hs2 (agj hx τ 0),τ,agi _ _ _ _ _ _⟩) ?_;rintro u ⟨τ,rfl⟩;refine aga ?_;rw[hdst2];exact h a2 w.heap.size _ (nR _) (af9 hk (nR _) V B) (af8 hx V B) hS2
end
section
variable {u:World} {b1:Nat} {V:BkV} {B:Bk} {xs:List Int} {xa:Option Addr} {xc n:Nat} {p:Int}
end
section
variable {u:World} {b1:Nat} {V:BkV} {B:Bk} {xs cs:List Int} {xa ca:Option Addr} {xc cc:Nat}
end
section
variable {f:FuncId} {N n d s t:Nat} {a:Act} {w:World} {l:List (Nat×Value)} {ops:Array Oper} {listed:Array Bool} {i:Nat} {rest:List Nat} {kk:List Item} {R:Value->World->Prop} {o:Oper}
end
end Go.Proofs.YtaikibfkggglgaaDoor
namespace Go.Proofs.YtaikibfkggglgaaDoor
open Go.RowKit Go.Rent Go.Tp Go.Conc Go.Joins
theorem ai0 {w:World} {τ:Nat->Question->Nat} {d base s n:Nat} {e:TypeId} {v:Value} {xs:List Value}:(w.tp τ d noJ).ownsRow base e s v n xs↔w.ownsRow base e s v n xs:=by
 unfold World.ownsRow;simp only[oG]
section
variable {f:FuncId} {N d s t:Nat} {a:Act} {w:World} {l:List (Nat×Value)} {ops:Array Oper} {i:Nat} {rest:List Nat} {kk:List Item} {R:Value->World->Prop} {o:Oper}
theorem ai1 (base:Nat) (e:TypeId) (sz:Nat) (hS:Sl a N l) (hb:base<=w.heap.size) (h: ∀a' g w',w.heap.size<=g->Kept w.heap.size w w'->w'.ownsRow base e sz (.slice (some ⟨g,0,none⟩) 0 0) 0 []->Sl a' N ((d,.slice (some ⟨g,0,none⟩) 0 0)::l)->GL tP f (.inRegion ops rest::kk) R a' w')
  (ho:ops[i]? =some o:=by rfl) (hw:Region.wanted o (yielded ops a.tmps)=true:=by rfl) (hdst:o.dst=some d:=by rfl) (hd:d<N:=by decide) (hn:(l.map (·.1)).contains d=false:=by rfl) (hr: ∀u,(execOp a.eval o).run tP u= .ok (.value (.slice (some ⟨u.heap.size,0,none⟩) 0 0)) (u.alloc (.cells #[] e)):=by intro u;go_simp):GL tP f (.inRegion ops (i::rest)::kk) R a w:=
 LQ good (fun v w'=> ∃g,v= .slice (some ⟨g,0,none⟩) 0 0/\w.heap.size<=g/\Kept w.heap.size w w'/\w'.ownsRow base e sz v 0 []) ho hw (fun τ=>⟨_,_,hr _,_,rfl,by rw[jO];exact nR _,rJ (Kept.refl _ _) ((Below.refl _ _).alloc (nR _) _),aip _ _ _ _ (by rw[jO];exact hb)⟩) fun v u ⟨g,e1,h0,h1,h2⟩=>by
  subst e1;exact h _ g u h0 h1 h2 (by have:=hS.put hd hn (v:= .slice (some ⟨g,0,none⟩) 0 0);rw[<-hdst] at this;exact this)
theorem ai2 (base:Nat) (e:TypeId) (sz:Nat) (p q:Tmp) (ty:TypeId) (i7:TypeInfo) (z:Value) (bytes:Nat) (ht:tP.underlying ty=some (.slice e)) (hi:tP.info? e=some i7) (hz:i7.zero=some z)
  (hsize:i7.size=sz) (hby:i7.bytes=bytes) (hzs:z.cells.size=sz) (hsz:0<sz) {v:Value} {n:Nat} {xs:List Value} (hown:w.ownsRow base e sz v n xs) {ad:Addr} {m c:Nat} {news:List Value}
  (hl:news.length=m*sz) (hnews: ∀(j:Nat) (u:Value),news[j]? =some u->w.cell? (ad.add j)=some u) (h1: ∀u∈news,u.oneCell'=true) (h63:n+m<=maxLen) (hbytes:(n+m)*bytes<=140737488355328) (hbase:base<=w.heap.size)
  (hS:Sl a N l) (h: ∀a' v' w',Kept base w w'->(∀b,b<w.heap.size->v.ownBlock≠some b->w'.heap[b]? =w.heap[b]?)->w'.ownsRow base e sz v' (n+m) (xs++news)->Sl a' N ((d,v')::l)->GL tP f (.inRegion ops rest::kk) R a' w')
  (hs:a.tmps[p]?.getD undef=v) (hx:a.tmps[q]?.getD undef= .slice (some ad) m c)
  (ho:ops[i]? =some o:=by rfl) (hop:o.op= .call {callee:= .builtin .append,args:= #[.tmp p,.tmp q],argTypes:= #[ty,ty]}:=by rfl) (hw:Region.wanted o (yielded ops a.tmps)=true:=by rfl) (hdst:o.dst=some d:=by rfl) (hd:d<N:=by decide) (hn:(l.map (·.1)).contains d=false:=by rfl):GL tP f (.inRegion ops (i::rest)::kk) R a w:=
 LQ good (fun v' w'=>Kept base w w'/\(∀b,b<w.heap.size->v.ownBlock≠some b->w'.heap[b]? =w.heap[b]?)/\w'.ownsRow base e sz v' (n+m) (xs++news)) ho hw (fun τ=>by
  obtain⟨v',w',hr,h2,h3,_⟩:=run_append_own (P:=tP) (w.tp τ 0 noJ) base ty o.type e i7 z sz bytes ht hi hz hsize hby hzs hsz v n xs (ai0.2 hown) ad m c news hl (fun j u hu=>by rw[bV];exact hnews j u hu) h1 h63 hbytes (by rw[jO];exact hbase);refine⟨v',w', ?_,aa3.1 (Kept.of_below ((Below.refl base (w.tp τ 0 noJ)).grown h3 (by rw[jO];exact hbase) fun j hj=>(hown.lt j hj).1)),fun b hb hne=>(h3.block b (by rw[jO];exact hb) (Ne.symm hne)).trans (by rw[oG]),h2⟩;have e1:a.eval (.tmp p)=v:=by rw[ev];exact hs
  have e2:a.eval (.tmp q)= .slice (some ad) m c:=by rw[ev];exact hx
  unfold execOp;simp only[hop,resolve,invoke,builtin,Sem.run_bind,Sem.run_pure,Result.andThen_ok,List.map_toArray,List.map_cons,List.map_nil,e1,e2,hr]) fun v' u ⟨h2,h4,h3⟩=>h _ v' u h2 h4 h3 (by have:=hS.put hd hn (v:=v');rw[<-hdst] at this;exact this)
theorem ai3 {b k:Nat} (v:Value) (x0:Value) (_hS:Sl a N l) (hc:w.cell? ⟨b,k,none⟩=some x0) (hf:w.frozen? ⟨b,k,none⟩=false) (h: ∀w',(∃τ,w'=(w.tp τ 0 noJ).setCell ⟨b,k,none⟩ v)->GL tP f (.inRegion ops rest::kk) R (a.put o.dst undef) w')
  (ho:ops[i]? =some o:=by rfl) (hw:Region.wanted o (yielded ops a.tmps)=true:=by rfl)
  (hr: ∀u,u.cell? ⟨b,k,none⟩=some x0->u.frozen? ⟨b,k,none⟩=false->(execOp a.eval o).run tP u= .ok .skip (u.setCell ⟨b,k,none⟩ v):=by intro u hc hf;have h:=(‹Sl _ _ _›).2.2;simp only[SlA] at h;simp[go_sem,h,hc,hf]):GL tP f (.inRegion ops (i::rest)::kk) R a w:=
 ag3 (fun w'=> ∃τ,w'=(w.tp τ 0 noJ).setCell ⟨b,k,none⟩ v) ho hw (fun τ=>⟨_,hr _ (by rw[bV];exact hc) (by rw[(jD (w:=w) (τ:=τ) (d:=0)).frozen (p:=⟨b,k,none⟩) (wBk w _ hc)];exact hf),τ,rfl⟩) h
end
theorem RwV.kept {w w':World} {l:List ahS} {vs:List (Int×Int×Value)} (h:RwV w l vs) (hk:Kept w.heap.size w w'):RwV w' l vs:=⟨h.len,fun i x hx=>by
 obtain⟨sa,sc,h1,h2,h3⟩:=h.get i x hx;exact⟨sa,sc,h1,h2.kept hk,h3⟩⟩
theorem afY.same {w w':World} {b:Nat} {V:BkV} {B:Bk} (h:afY w b V B) (hb:w'.heap[b]? =w.heap[b]?):afY w' b V B:=by
 have hc: ∀o,w'.cell? ⟨b,o,none⟩=w.cell? ⟨b,o,none⟩:=fun o=>by simp[World.cell?,hb]
 have hf: ∀o,w'.frozen? ⟨b,o,none⟩=w.frozen? ⟨b,o,none⟩:=fun o=>by simp[World.frozen?,hb]
 have c0:=(hc 0).trans h.c0;exact⟨c0,(hc 1).trans h.c1,(hc 2).trans h.c2,(hc 3).trans h.c3,wBk w' _ c0,fun j=>(hf j).trans (h.fr j)⟩
theorem afY.setla {w:World} {b n gc:Nat} {ga:Option Addr} {V:BkV} {B:Bk} {ls:List Lnk} (h:afY w b V B) (τ:Nat->Question->Nat) (hn:n=ls.length):afY ((w.tp τ 0 noJ).setCell ⟨b,2,none⟩ (.slice ga n gc)) b {V with la:=ga,lc:=gc} (ahK B ls):=by
 subst hn;have h':=h.kept (w':=w.tp τ 0 noJ) jD;obtain⟨c0,c1,c2,c3,hl,hf⟩:=h';generalize w.tp τ 0 noJ=u at *;refine⟨?_, ?_,World.cell?_setCell_same _ _ _ c2, ?_,by simpa using hl,fun j=>by rw[World.frozen?_setCell];exact hf j⟩
 ·show World.cell? _ _=some (Value.int .i64 B.hours)
  go_simp
 ·show World.cell? _ _=some (Value.slice V.ta B.towns.length V.tc)
  go_simp
 ·show World.cell? _ _=some (Value.slice V.pa B.pairs.length V.pc)
  go_simp
section
variable {u:World} {b1:Nat} {V:BkV} {B:Bk}
theorem ai4 (hB:dL u b1 V B) (ha:B.alarm=0):iK tP 49 #[V.val B] u fun v w'=>(∃fa fc,v= .tuple #[.slice (some ⟨fa,0,none⟩) B.links.length fc,.int .i64 (aC B kC).2,.int .i64 0]/\SlI w' (some ⟨fa,0,none⟩) (aC B kC).1/\(aC B kC).1.length=B.links.length/\u.heap.size<=fa)/\Kept u.heap.size u w':=
 acs (X:=fun v w'=> ∃fa fc,v= .tuple #[.slice (some ⟨fa,0,none⟩) B.links.length fc,.int .i64 (aC B kC).2,.int .i64 0]/\SlI w' (some ⟨fa,0,none⟩) (aC B kC).1/\(aC B kC).1.length=B.links.length/\u.heap.size<=fa) (fun _ _ _ ⟨a,b,c,d,e⟩ k=>⟨a,b,c,d.kept k,e⟩) fun τ=>
  (c49 V B _ (hB.kept jD).book (hB.kept jD).vars).mono fun _ _ ⟨h1,_,hb⟩=>by
   obtain⟨fa,fc,e,hx,hl,_,hs⟩:=h1 ha;rw[hl] at e;rw[jO] at hs;exact⟨_,e,⟨fa,fc,rfl,hx,hl,hs⟩,hb⟩
theorem ai5 (hb:aB u V B) (hv:Vars u) (ha:B.alarm=0):iK tP 39 #[V.val B] u fun v w'=>(∃fa fc,v= .tuple #[.slice (some ⟨fa,0,none⟩) B.links.length fc,.int .i64 (aC B aT).2,.int .i64 0])/\Kept u.heap.size u w':=
 acs (X:=fun v _=> ∃fa fc,v= .tuple #[.slice (some ⟨fa,0,none⟩) B.links.length fc,.int .i64 (aC B aT).2,.int .i64 0]) (fun _ _ _ h _=>h) fun τ=>
  (c39 V B _ (hb.kept jD) (hv.kept jD)).mono fun _ _ ⟨h1,_,hb⟩=>by
   obtain⟨fa,fc,e,_,hl,_,_⟩:=h1 ha;rw[hl] at e;exact⟨_,e,⟨fa,fc,rfl⟩,hb⟩
theorem ai6 (hB:dL u b1 V B) (ha:B.alarm=0):iK tP 50 #[V.val B] u fun v w'=>v= .tuple #[.int .i64 (mM B).1,.int .i64 (mM B).2,.int .i64 0]/\Kept u.heap.size u w':=
 acs (X:=fun v _=>v= .tuple #[.int .i64 (mM B).1,.int .i64 (mM B).2,.int .i64 0]) (fun _ _ _ h _=>h) fun τ=>
  (c50 V B _ (hB.kept jD).book (hB.kept jD).vars).mono fun _ _ ⟨e,hb⟩=>⟨_,e,by unfold oU;rw[if_pos ha],hb⟩
theorem aiI (i:Nat) (hB:dL u b1 V B) (ha:B.alarm=0) (hi:i<B.links.length):iK tP 51 #[V.val B,.int .i64 (i:Int)] u fun v w'=>v=(if i<B.spokes then .tuple #[.int .i64 0,.int .i64 7] else .tuple #[.int .i64 (kD B i),.int .i64 0])/\Kept u.heap.size u w':=
 acs (X:=fun v _=>v=(if i<B.spokes then .tuple #[.int .i64 0,.int .i64 7] else .tuple #[.int .i64 (kD B i),.int .i64 0])) (fun _ _ _ h _=>h) fun τ=>
  (c51 V B i _ (hB.kept jD).book (hB.kept jD).vars).mono fun _ _ ⟨e,hb⟩=>⟨_,e,by
   have hb:btw (i:Int) 0 ((B.links.length:Int)-1)=true:=by simp[btw];omega
   have ho:fF B true=0:=by unfold fF;rw[if_pos ha];rfl
   unfold ah3;rw[hb,if_pos ho];by_cases c:i<B.spokes
   ·rw[if_pos c,if_pos (by omega)]
   ·rw[if_neg c,if_neg (by omega)],hb⟩
theorem ai7 (i:Nat) (hB:dL u b1 V B) (ha:B.alarm=0) (hi:i<B.links.length) (hs:B.spokes<=i) (hlc:B.links.length<=V.lc/\V.lc<=maxLen):
  iK tP 52 #[V.val B,.int .i64 (i:Int)] u fun v w'=>(∃V',v=V'.val (ahK B (ahL B i))/\aB w' V' (ahK B (ahL B i))/\fH w' V')/\Kept u.heap.size u w':=by
 have hF:=(gY ha).fine;have ht:=hF.towns;have hll:=hF.links;have hsp:B.spokes=B.towns.length-1:=rfl;refine acs (X:=fun v w'=> ∃V',v=V'.val (ahK B (ahL B i))/\aB w' V' (ahK B (ahL B i))/\fH w' V') (fun v x y h k=>by obtain⟨a,b,c,d⟩:=h;exact⟨a,b,c.kept k,d.kept k⟩) fun τ=> ?_;have hB':=hB.kept (u':=u.tp τ 0 noJ) jD;refine(c52 V B i _ hB'.book ⟨by omega,hll.2⟩ hi hlc).mono ?_;rintro e w' ⟨g,gc,rfl,h1,h2,_,_,hb⟩;have hr:=hB'.rows.kept (Kept.of_below hb);exact⟨_,rfl,⟨_,rfl,h1,⟨hr.ta,h2,hr.pa⟩⟩,hb⟩
end
theorem ai8 {H:Type} {enc:TypeId×Value->H} {w:World} {base b0:Nat} {spare:Nat->Bool} {held:Bool} {r:Reach} {v:Value} {d:DataW H} {p:List MemPlace} {V:BkV} {B:Bk}
  (hv:Value.okWide tP w r b0 26 v) (h:DataW.Trod enc tP w base spare held 26 v d p) (e:v=V.val B):B.links.length<=V.lc/\V.lc<=maxLen:=by
 obtain⟨v0,v1,v2,v3,y0,y1,y2,y3,n,rfl,_,_,h0,h1,h2,h3⟩:=open_agg4 (P:=tP) Tryd.underlying26 (by kernel_rfl) (by kernel_rfl) hv h;obtain⟨la,ll,lc,e2,l1,l2,l3,l4⟩:=ML Tryd.underlying23 Tryd.underlying79 (by kernel_rfl) ⟨rfl,rfl,rfl⟩ ⟨by kernel_rfl,by kernel_rfl,by kernel_rfl⟩ Tryd.underlying3 Tryd.underlying3 (fun n cs x=>MJ Tryd.underlying77 Tryd.underlying137 (by kernel_rfl) rfl rfl (by kernel_rfl) (by kernel_rfl) Tryd.underlying3 Tryd.underlying3) h2;simp only[List.cons.injEq,and_true] at e2;subst e2;simp only[BkV.val,Value.agg.injEq,Array.mk.injEq,List.cons.injEq,Value.slice.injEq] at e;obtain⟨_,_,⟨_,e3,e4⟩,_⟩:=e;rw[<-e3,<-e4];exact⟨l1,l2⟩
end Go.Proofs.YtaikibfkggglgaaDoor
namespace Go.Proofs.YtaikibfkggglgaaDoor
open Go.RowKit Go.Rent Go.Tp Go.Conc
noncomputable def ahR:Code:=Tryd.f12.body.getD .skip
noncomputable def ah4:Code:=match ahR with
 | .seq _ (.seq (.seq _ c) _)=>c
 |_=> .skip
noncomputable def ahV:Code:=match ahR with
 | .seq _ (.seq _ c)=>c
 |_=> .skip
noncomputable def dr6:Code:=match ahV with
 | .seq _ (.seq _ (.seq _ c))=>c
 |_=> .skip
noncomputable def dr7:Code:=match dr6 with
 | .seq _ (.seq c _)=>c
 |_=> .skip
noncomputable def dr8:Code:=match dr6 with
 | .seq _ (.seq _ c)=>c
 |_=> .skip
noncomputable def dr9:Code:=match dr8 with
 | .seq _ c=>c
 |_=> .skip
noncomputable def aic:Code:=match dr9 with
 | .seq _ c=>c
 |_=> .skip
theorem ai9 (V:BkV) (B:Bk) (q:Int) (w:World) (hs:iw w V B):
  Comes tP [.code ahR] (fun it a u=> ∃b1,it= [.code ah4,.code ahV]/\Sl a 192 [(26,.bool (!oO B)),(1,.int .u8 q),(2,.pointer (some ⟨b1,0,none⟩))]/\(u.cell? ⟨b1,0,none⟩=some (.int .i64 B.hours)/\u.cell? ⟨b1,1,none⟩=some (.slice V.ta B.towns.length V.tc)/\u.cell? ⟨b1,2,none⟩=some (.slice V.la B.links.length V.lc)/\u.cell? ⟨b1,3,none⟩=some (.slice V.pa B.pairs.length V.pc))/\Below w.heap.size w u)
   ⟨(V.val B:: .int .u8 q::List.replicate 190 undef).toArray,[]⟩ w:=by
 obtain⟨ta,la,pa,tc,lc,pc⟩:=V;have hb0:Below w.heap.size w (w.alloc (.cells #[.int .i64 B.hours,.slice ta B.towns.length tc,.slice la B.links.length lc,.slice pa B.pairs.length pc] 26)):=(Below.refl _ _).alloc (nR _) _;have HC:=Lib.hid (c30 ⟨ta,la,pa,tc,lc,pc⟩ B _ (hs.below hb0 (nR _)));have HB0:=Lib.hid hb0;clear hs hb0;simp only[List.replicate,BkV.val];simp only[ahR,Tryd.f12,Option.getD_some];refine aK (bg ?_);go_wp2;refine aK (aK (bg ?_))
 go_wp2_with fail
 refine HC.out.mono ?_;rintro e w1 ⟨rfl,hb1⟩;have HB1:=Lib.hid (HB0.out.trans (hb1.mono (by simp)));have k0:w1.cell? ⟨w.heap.size,0,none⟩=some (.int .i64 B.hours):=by rw[(ak hb1).1 _ _ (by simp)];go_simp
 have k1:w1.cell? ⟨w.heap.size,1,none⟩=some (.slice ta B.towns.length tc):=by rw[(ak hb1).1 _ _ (by simp)];go_simp
 have k2:w1.cell? ⟨w.heap.size,2,none⟩=some (.slice la B.links.length lc):=by rw[(ak hb1).1 _ _ (by simp)];go_simp
 have k3:w1.cell? ⟨w.heap.size,3,none⟩=some (.slice pa B.pairs.length pc):=by rw[(ak hb1).1 _ _ (by simp)];go_simp
 clear hb1;go_wp2;exact dO ⟨w.heap.size,rfl,⟨rfl,rfl,rfl,rfl,rfl,trivial⟩,⟨k0,k1,k2,k3⟩,HB1.out⟩
theorem aja {R:Value->World->Prop} {kk:List Item} {V:BkV} {B:Bk} {b2 b14:Nat} {k m h n q:Int} (hA:B.alarm=0) (hlc:B.links.length<=V.lc/\V.lc<=maxLen) (a:Act) (w0 w:World) (hB0:dL w0 b2 V B) (hk0:Kept w0.heap.size w0 w) (hb14:w0.heap.size<=b14) (hK:afY w b14 V B) (hS:Sl a 192 [(14,.pointer (some ⟨b14,0,none⟩)),(11,.int .i64 k),(12,.int .i64 m),(13,.int .i64 0),(9,.int .i64 h),(10,.int .i64 0),(6,.int .i64 n),(7,.int .i64 0),(1,.int .u8 q),(2,.pointer (some ⟨b2,0,none⟩))])
  (K: ∀a' u V',Sl a' 192 [(14,.pointer (some ⟨b14,0,none⟩)),(11,.int .i64 k),(12,.int .i64 m),(13,.int .i64 0),(9,.int .i64 h),(10,.int .i64 0),(6,.int .i64 n),(7,.int .i64 0),(1,.int .u8 q),(2,.pointer (some ⟨b2,0,none⟩))]->Kept w0.heap.size w0 u->dL u b14 V' (ahK B (B.links.take B.spokes))->GL tP 12 kk R a' u):GL tP 12 (.code dr7::kk) R a w:=by
 have hB:=hB0.kept hk0;have hF:=(gY hA).fine;have htt:=hF.towns;have hll:=hF.links;have hsp:(B.towns.length:Int)-1=(B.spokes:Int):=by show _=((B.towns.length-1 :Nat):Int);omega
 have hs1:1<=B.spokes:=by show 1<=B.towns.length-1;omega
 have hwr:IntKind.wrap .i64 ((B.towns.length:Int)-1)=(B.spokes:Int):=(IntWalk.i64_in _ (by omega)).trans hsp;obtain⟨lb,lo,sa0,sc0,hla,_⟩:=hB.book.links 0 _ (lG (by omega));have hlk:=hB0.book.links;rw[hla] at hlk;obtain⟨vs,hrv,htr⟩:=ail hlk;have hvl:vs.length=B.links.length:=by rw[hrv.len,List.length_map]
 have hcut:=fun(u:World)=>air V.la B.links.length B.spokes V.lc hll.1 hlc.1 u;have h14:=hK.lt;obtain⟨i7,hi7,hz7,hy7,hw7⟩:=info_parts Zo;simp only[dr7,dr6,ahV,ahR,Tryd.f12,Option.getD_some];refine oJ good ?_;refine ai1 w0.heap.size 79 3 hS hk0.size (fun a g7 u hg7 hk7 ho hS=> ?_);have hk1:=hk0.trans (hk7.mono hk0.size);have hB:=hB0.kept hk1;have hK:=hK.kept hk7;refine acT hS hB (fun a hS=> ?_) (hs:=hS.2.2.2.2.2.2.2.2.2.2.2.2.1);refine acX hS hB (fun a hS=> ?_) (hs:=hS.2.2.1);refine acS hS hB (fun a hS=> ?_) (hs:=hS.2.2.2.2.2.2.2.2.2.2.2.2.2.2.1);refine acW hS hB (fun a hS=> ?_) (hs:=hS.2.2.1);refine aU (.int .i64 (B.towns.length:Int)) hS (fun a hS=> ?_);refine aU (.int .i64 (B.spokes:Int)) hS (fun a hS=> ?_) (hr:=by intro τ;have h:=(‹Sl _ _ _›).2.2;simp only[SlA] at h;simp[go_sem,h,hwr]);refine aU (.slice V.la B.spokes V.lc) hS (fun a hS=> ?_) (hr:=by intro τ;have h:=(‹Sl _ _ _›).2.2;simp only[SlA] at h;simp[go_sem,h,hcut]);rw[hla] at hS;refine ai2 w0.heap.size 79 3 47 54 23 i7 (.agg #[.int .i64 0,.int .i64 0,.slice none 0 0]) 40 Tryd.underlying23 hi7 hz7 hy7 hw7 (by rfl) (by decide) ho (news:=tri (vs.take B.spokes)) (by rw[ES,List.length_take,hvl,Nat.min_eq_left hll.1]) (fun j x hx=> ?_) (hrv.take B.spokes).one (by unfold maxLen;omega) (by omega) hk1.size hS (fun a v8 u8 hk8 hsame ho8 hS=> ?_) hS.2.2.2.2.2.2.2.2.2.1 hS.2.2.1
 ·have:=(htr.take B.spokes) j x hx;rw[BH] at this ⊢;exact dV hk1 (nR _) this
 obtain⟨g,gc,rfl,q1,q2,q3,_,q5,_⟩:=ru ho8 (by omega);rw[Nat.zero_add,List.nil_append] at *;refine aU (.pointer (some ⟨b14,2,none⟩)) hS (fun a hS=> ?_);have hlt:=hK.lt;have hK8:=hK.same (hsame b14 hlt (by simp[Value.ownBlock];omega));have hk2:=hk1.trans (hk8.mono (nR _));refine ai3 (.slice (some ⟨g,0,none⟩) B.spokes gc) _ hS hK8.c2 (hK8.fr 2) fun u9 ⟨τ,e9⟩=> ?_;refine lY good ?_;have hS:Sl a 192 [(14,.pointer (some ⟨b14,0,none⟩)),(11,.int .i64 k),(12,.int .i64 m),(13,.int .i64 0),(9,.int .i64 h),(10,.int .i64 0),(6,.int .i64 n),(7,.int .i64 0),(1,.int .u8 q),(2,.pointer (some ⟨b2,0,none⟩))]:=⟨hS.1,hS.2.1,hS.2.2.2.2.2.2.2.2.2.2.2.2.1,hS.2.2.2.2.2.2.2.2.2.2.2.2.2.1,hS.2.2.2.2.2.2.2.2.2.2.2.2.2.2.1,hS.2.2.2.2.2.2.2.2.2.2.2.2.2.2.2.1,hS.2.2.2.2.2.2.2.2.2.2.2.2.2.2.2.2.1,hS.2.2.2.2.2.2.2.2.2.2.2.2.2.2.2.2.2.1,hS.2.2.2.2.2.2.2.2.2.2.2.2.2.2.2.2.2.2.1,hS.2.2.2.2.2.2.2.2.2.2.2.2.2.2.2.2.2.2.2.1,hS.2.2.2.2.2.2.2.2.2.2.2.2.2.2.2.2.2.2.2.2.1,hS.2.2.2.2.2.2.2.2.2.2.2.2.2.2.2.2.2.2.2.2.2.1,trivial⟩;subst e9;have hK9:=afY.setla (ga:=some ⟨g,0,none⟩) (gc:=gc) (ls:=B.links.take B.spokes) hK8 τ (n:=B.spokes) (by rw[List.length_take,Nat.min_eq_left hll.1]);have hk9:Kept w0.heap.size w0 ((u8.tp τ 0 noJ).setCell ⟨b14,2,none⟩ (.slice (some ⟨g,0,none⟩) B.spokes gc)):=ach (fC.2 hk2) (p:=⟨b14,2,none⟩) hb14 _;have hne:b14≠g:=by
  intro e;have hx0:((B.links.map lk3).take B.spokes)[0]? =some (lk3 B.links[0]):=by rw[List.getElem?_take,if_pos (by omega),List.getElem?_map,lG (by omega)];rfl
  obtain⟨_,_,hg0,_⟩:=(hrv.take B.spokes).get 0 _ hx0;have c1:=q3 _ _ (ET _ 0 _ hg0).2.1;rw[<-e] at c1;have c2:=hK8.c1;rw[show 0*3+1=1 by rfl,c2] at c1
  cases c1
 have hB9:=hB0.kept hk9;refine K _ _ {V with la:=some ⟨g,0,none⟩,lc:=gc} hS hk9 ⟨hK9.c0,hK9.c1,hK9.c2,hK9.c3, ?_,⟨hB9.rows.ta, ?_,hB9.rows.pa⟩,hB9.vars⟩
 ·refine⟨hB9.book.towns,ain (vs:=vs.take B.spokes) ?_ (aio fun j x hx=> ?_),hB9.book.pairs,hB9.book.nt, ?_,hB9.book.np,hB9.book.tc⟩
  ·have:=(hrv.take B.spokes).kept hk9;rwa [<-List.map_take] at this
  ·rw[World.cell?_setCell_far _ _ _ _ hne,bV];exact q3 j x hx
  ·show (B.links.take B.spokes).length<=1000000
   rw[List.length_take];omega
 ·exact jm _ _ (fun ad e=>by rw[oG];exact(aan ho8).1 ad e)
theorem ajb {R:Value->World->Prop} {kk:List Item} {V:BkV} {B:Bk} {b2 b14 fb x15 fd:Nat} {k m h n q:Int} {e:Bool} (hnh: ¬h<n) (hn0: ¬n<0) (hbt:btw k (-1) ((B.links.length:Int)-1)=true) (he1:decide (k= -1)=e) (he2:decide (m=0)=e) (hl6:B.links.length<=6) (a:Act) (w:World) (hB:dL w b2 V B) (hS:Sl a 192 [(15,.slice (some ⟨fb,0,none⟩) x15 fd),(16,.int .i64 h),(17,.int .i64 0),(14,.pointer (some ⟨b14,0,none⟩)),(11,.int .i64 k),(12,.int .i64 m),(13,.int .i64 0),(9,.int .i64 h),(10,.int .i64 0),(6,.int .i64 n),(7,.int .i64 0),(1,.int .u8 q),(2,.pointer (some ⟨b2,0,none⟩))])
  (K: ∀a' u,Sl a' 192 [(11,.int .i64 k),(12,.int .i64 m),(6,.int .i64 n),(1,.int .u8 q),(2,.pointer (some ⟨b2,0,none⟩))]->Kept w.heap.size w u->GL tP 12 (.code aic::kk) R a' u):GL tP 12 (.code dr9::kk) R a w:=by
 have hw1:IntKind.wrap .i64 ((B.links.length:Int)-1)=(B.links.length:Int)-1:=IntWalk.i64_in _ (by omega);have hb1:(k== -1)=e:=by rw[<-he1];rfl
 have hb2:(m==0)=e:=by rw[<-he2];rfl
 have hkw:Kept w.heap.size w w:=Kept.refl _ _;have e8:dr9= .seq (match dr9 with | .seq x _=>x |_=> .skip) aic:=rfl;rw[e8];simp only[dr9,dr8,dr6,ahV,ahR,Tryd.f12,Option.getD_some];refine kV good (kV good (oJ good ?_));refine aU (.int .i64 0) hS (fun a hS=> ?_);refine aU (.bool false) hS (fun a hS=> ?_);refine aU (.bool false) hS (fun a hS=> ?_);refine aU (.int .i64 0) hS (fun a hS=> ?_) (hw:=FM (dd:=65) rfl rfl (by rw[hS.1];decide) hS.2.2.1);refine aU (.bool false) hS (fun a hS=> ?_) (hw:=FM (dd:=65) rfl rfl (by rw[hS.1];decide) hS.2.2.2.1);refine aU (.bool false) hS (fun a hS=> ?_);refine aU (.bool false) hS (fun a hS=> ?_);refine aU (.int .i64 0) hS (fun a hS=> ?_) (hw:=FM (dd:=69) rfl rfl (by rw[hS.1];decide) hS.2.2.1);refine aU (.bool false) hS (fun a hS=> ?_) (hw:=FM (dd:=69) rfl rfl (by rw[hS.1];decide) hS.2.2.2.1);refine aU (.bool false) hS (fun a hS=> ?_);refine aU (.bool false) hS (fun a hS=> ?_);refine aU (.int .i64 0) hS (fun a hS=> ?_) (hw:=FM (dd:=73) rfl rfl (by rw[hS.1];decide) hS.2.2.1);refine aU (.bool false) hS (fun a hS=> ?_) (hw:=FM (dd:=73) rfl rfl (by rw[hS.1];decide) hS.2.2.2.1);refine aU (.bool false) hS (fun a hS=> ?_);refine aU (.bool false) hS (fun a hS=> ?_);refine aU (.int .i64 h) hS (fun a hS=> ?_) (hw:=FM (dd:=77) rfl rfl (by rw[hS.1];decide) hS.2.2.1);refine aU (.int .i64 h) hS (fun a hS=> ?_) (hw:=FM (dd:=77) rfl rfl (by rw[hS.1];decide) hS.2.2.2.1);refine aU (.bool false) hS (fun a hS=> ?_) (hw:=FM (dd:=77) rfl rfl (by rw[hS.1];decide) hS.2.2.2.2.1) (hr:=by intro τ;have h:=(‹Sl _ _ _›).2.2;simp only[SlA] at h;simp[go_sem,h,]);refine aU (.bool false) hS (fun a hS=> ?_);refine aU (.bool false) hS (fun a hS=> ?_);refine aU (.int .i64 n) hS (fun a hS=> ?_) (hw:=FM (dd:=82) rfl rfl (by rw[hS.1];decide) hS.2.2.1);refine aU (.int .i64 h) hS (fun a hS=> ?_) (hw:=FM (dd:=82) rfl rfl (by rw[hS.1];decide) hS.2.2.2.1);refine aU (.bool false) hS (fun a hS=> ?_) (hw:=FM (dd:=82) rfl rfl (by rw[hS.1];decide) hS.2.2.2.2.1) (hr:=by intro τ;have h:=(‹Sl _ _ _›).2.2;simp only[SlA] at h;simp[go_sem,h,hnh]);refine aU (.bool false) hS (fun a hS=> ?_);refine aU (.bool false) hS (fun a hS=> ?_);refine aU (.int .i64 n) hS (fun a hS=> ?_) (hw:=FM (dd:=87) rfl rfl (by rw[hS.1];decide) hS.2.2.1);refine aU (.bool false) hS (fun a hS=> ?_) (hw:=FM (dd:=87) rfl rfl (by rw[hS.1];decide) hS.2.2.2.1) (hr:=by intro τ;have h:=(‹Sl _ _ _›).2.2;simp only[SlA] at h;simp[go_sem,h,hn0]);refine aU (.bool false) hS (fun a hS=> ?_);refine aU (.bool false) hS (fun a hS=> ?_);refine aU (.int .i64 k) hS (fun a hS=> ?_) (hw:=FM (dd:=91) rfl rfl (by rw[hS.1];decide) hS.2.2.1);refine acT hS hB (fun a hS=> ?_) (hw:=FM (dd:=91) rfl rfl (by rw[hS.1];decide) hS.2.2.2.1) (hs:=hS.2.2.2.2.2.2.2.2.2.2.2.2.2.2.2.2.2.2.2.2.2.2.2.2.2.2.2.2.2.2.2.2.2.2.2.2.2.2.2.2.2.2.2.2.1);refine acX hS hB (fun a hS=> ?_) (hw:=FM (dd:=91) rfl rfl (by rw[hS.1];decide) hS.2.2.2.2.1) (hs:=hS.2.2.1);refine aU (.int .i64 (B.links.length:Int)) hS (fun a hS=> ?_) (hw:=FM (dd:=91) rfl rfl (by rw[hS.1];decide) hS.2.2.2.2.2.1);refine aU (.int .i64 ((B.links.length:Int)-1)) hS (fun a hS=> ?_) (hw:=FM (dd:=91) rfl rfl (by rw[hS.1];decide) hS.2.2.2.2.2.2.1) (hr:=by intro τ;have h:=(‹Sl _ _ _›).2.2;simp only[SlA] at h;simp[go_sem,h,hw1]);refine pz (acM k (-1) ((B.links.length:Int)-1)) hS ?_ (hw:=FM (dd:=91) rfl rfl (by rw[hS.1];decide) hS.2.2.2.2.2.2.2.1);rintro a v u ⟨rfl,hk⟩ hS;rw[hbt] at hS;have hB:=hB.kept hk;have hkw:=hkw.trans (hk.mono hkw.size);refine aU (.bool false) hS (fun a hS=> ?_) (hw:=FM (dd:=91) rfl rfl (by rw[hS.1];decide) hS.2.2.2.2.2.2.2.2.1);refine aU (.bool false) hS (fun a hS=> ?_);refine aU (.bool false) hS (fun a hS=> ?_);refine aU (.int .i64 k) hS (fun a hS=> ?_) (hw:=FM (dd:=100) rfl rfl (by rw[hS.1];decide) hS.2.2.1);refine aU (.bool e) hS (fun a hS=> ?_) (hw:=FM (dd:=100) rfl rfl (by rw[hS.1];decide) hS.2.2.2.1) (hr:=by intro τ;have h:=(‹Sl _ _ _›).2.2;simp only[SlA] at h;simp[go_sem,h,hb1]);refine aU (.int .i64 m) hS (fun a hS=> ?_) (hw:=FM (dd:=100) rfl rfl (by rw[hS.1];decide) hS.2.2.2.2.1);refine aU (.bool e) hS (fun a hS=> ?_) (hw:=FM (dd:=100) rfl rfl (by rw[hS.1];decide) hS.2.2.2.2.2.1) (hr:=by intro τ;have h:=(‹Sl _ _ _›).2.2;simp only[SlA] at h;simp[go_sem,h,hb2]);refine aU (.bool false) hS (fun a hS=> ?_) (hw:=FM (dd:=100) rfl rfl (by rw[hS.1];decide) hS.2.2.2.2.2.2.1) (hr:=by intro τ;have h:=(‹Sl _ _ _›).2.2;simp only[SlA] at h;simp[go_sem,h,]);refine aU (.bool false) hS (fun a hS=> ?_);refine lY good ?_;refine sO good false (by rw[ev];exact hS.2.2.1) ?_;rw[if_neg (by decide)];refine LM good ?_;have hS:Sl a 192 [(11,.int .i64 k),(12,.int .i64 m),(6,.int .i64 n),(1,.int .u8 q),(2,.pointer (some ⟨b2,0,none⟩))]:=⟨hS.1,hS.2.1,hS.2.2.2.2.2.2.2.2.2.2.2.2.2.2.2.2.2.2.2.2.2.2.2.2.2.2.2.2.2.2.2.2.2.2.2.2.2.2.2.2.2.2.2.2.2.2.2.2.2.2.1,hS.2.2.2.2.2.2.2.2.2.2.2.2.2.2.2.2.2.2.2.2.2.2.2.2.2.2.2.2.2.2.2.2.2.2.2.2.2.2.2.2.2.2.2.2.2.2.2.2.2.2.2.1,hS.2.2.2.2.2.2.2.2.2.2.2.2.2.2.2.2.2.2.2.2.2.2.2.2.2.2.2.2.2.2.2.2.2.2.2.2.2.2.2.2.2.2.2.2.2.2.2.2.2.2.2.2.2.2.2.1,hS.2.2.2.2.2.2.2.2.2.2.2.2.2.2.2.2.2.2.2.2.2.2.2.2.2.2.2.2.2.2.2.2.2.2.2.2.2.2.2.2.2.2.2.2.2.2.2.2.2.2.2.2.2.2.2.2.2.1,hS.2.2.2.2.2.2.2.2.2.2.2.2.2.2.2.2.2.2.2.2.2.2.2.2.2.2.2.2.2.2.2.2.2.2.2.2.2.2.2.2.2.2.2.2.2.2.2.2.2.2.2.2.2.2.2.2.2.2.1,trivial⟩;exact K a u hS hkw
end Go.Proofs.YtaikibfkggglgaaDoor
