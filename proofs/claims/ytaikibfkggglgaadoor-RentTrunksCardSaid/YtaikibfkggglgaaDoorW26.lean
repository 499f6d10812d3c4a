/- A part of the proof of a law; no conditions of its own. -/
import Derived.Test.YtaikibfkggglgaaDoorW25
set_option maxRecDepth 100000
open Nat renaming le_refl→nR
open Go.Lib renaming hid→lH
open Go.RowKit.Below renaming refl→bR
open Go.Proofs.Tryd renaming prog→tP
open List renaming getElem?_eq_getElem→lG
open Go.World renaming block_lt_of_cell?→wBk
set_option maxHeartbeats 4000000
namespace Go.Proofs.YtaikibfkggglgaaDoor
open Go.RowKit Go.Rent Go.Tp Go.Conc
section
variable {f:FuncId} {N d s:Nat} {a:Act} {w:World} {l:List (Nat×Value)} {ops:Array Oper} {i:Nat} {rest:List Nat} {kk:List Item} {R:Value->World->Prop} {o:Oper}
theorem aU (v:Value) (hS:Sl a N l) (h: ∀a',Sl a' N ((d,v)::l)->GL tP f (.inRegion ops rest::kk) R a' w)
  (ho:ops[i]? =some o:=by rfl) (hw:Region.wanted o (yielded ops a.tmps)=true:=by rfl) (hdst:o.dst=some d:=by rfl) (hd:d<N:=by decide) (hn:(l.map (·.1)).contains d=false:=by rfl)
  (hr: ∀τ,(execOp a.eval o).run tP (w.tp τ 0 noJ)= .ok (.value v) (w.tp τ 0 noJ):=by intro τ;have h:=(‹Sl _ _ _›).2.2;simp only[SlA] at h;simp[go_sem,h]):
  GL tP f (.inRegion ops (i::rest)::kk) R a w:=vg hS ho hw hdst hd hn hr h
theorem BJ {b1:Nat} {V:BkV} {B:Bk} (hB:dL w b1 V B) (hS:Sl a N l) (h: ∀a',Sl a' N ((d,V.val B)::l)->GL tP f (.inRegion ops rest::kk) R a' w)
  (ho:ops[i]? =some o:=by rfl) (hw:Region.wanted o (yielded ops a.tmps)=true:=by rfl) (hdst:o.dst=some d:=by rfl) (hd:d<N:=by decide) (hn:(l.map (·.1)).contains d=false:=by rfl) (hp:o.op= .load 26 (.tmp s):=by rfl)
  (hs:a.tmps[s]?.getD undef= .pointer (some ⟨b1,0,none⟩):=by have h:=(‹Sl _ _ _›).2.2;simp only[SlA] at h;simp only[h]):
  GL tP f (.inRegion ops (i::rest)::kk) R a w:=vg hS ho hw hdst hd hn (fun τ=>by
   obtain⟨c0,c1,c2,c3,_,_,_⟩:=hB.kept (u':=w.tp τ 0 noJ) jD;obtain⟨dd,oo,ty,po,af,gu⟩:=o;simp only at hp;subst hp;go_simp) h
theorem BK (x y z u:Int) (hS:Sl a N l) (h: ∀a' w' b,Kept w.heap.size w w'->SlI w' (some ⟨b,0,none⟩) [x,y,z,u]->Sl a' N ((d,.slice (some ⟨b,0,none⟩) 4 4)::l)->GL tP f (.inRegion ops rest::kk) R a' w')
  (ho:ops[i]? =some o:=by rfl) (hw:Region.wanted o (yielded ops a.tmps)=true:=by rfl) (hdst:o.dst=some d:=by rfl) (hd:d<N:=by decide) (hn:(l.map (·.1)).contains d=false:=by rfl)
  (hp:o.op= .buildSlice 27 4 #[(0,.const (.int .i64 x)),(1,.const (.int .i64 y)),(2,.const (.int .i64 z)),(3,.const (.int .i64 u))]:=by rfl):
  GL tP f (.inRegion ops (i::rest)::kk) R a w:=
 LQ good (fun v u'=> ∃b,v= .slice (some ⟨b,0,none⟩) 4 4/\SlI u' (some ⟨b,0,none⟩) [x,y,z,u]/\Kept w.heap.size w u') ho hw (fun τ=>by
  obtain⟨dd,oo,ty,po,af,gu⟩:=o;simp only at hp;subst hp;refine⟨.slice (some ⟨(w.tp τ 0 noJ).heap.size,0,none⟩) 4 4,(w.tp τ 0 noJ).alloc (.cells #[.int .i64 x,.int .i64 y,.int .i64 z,.int .i64 u] 3), ?_,_,rfl,sl4 ?_ ?_ ?_ ?_,rJ (Kept.refl _ _) ((bR _ _).alloc (nR _) _)⟩
  all_goals generalize w.tp τ 0 noJ=w1
  all_goals go_simp) fun v u' ⟨b,e,hx,hk⟩=>by
  subst e;refine h _ u' b hk hx ?_;have:=hS.put hd hn (v:= .slice (some ⟨b,0,none⟩) 4 4);rw[<-hdst] at this;exact this
theorem pz {g:FuncId} {args:Array Value} {R1:Value->World->Prop} (hcall:iK tP g args w R1) (hS:Sl a N l) (k: ∀a' v w',R1 v w'->Sl a' N ((d,v)::l)->GL tP f (.inRegion ops rest::kk) R a' w')
  (ho:ops[i]? =some o:=by rfl) (hw:Region.wanted o (yielded ops a.tmps)=true:=by rfl) (hdst:o.dst=some d:=by rfl) (hd:d<N:=by decide) (hn:(l.map (·.1)).contains d=false:=by rfl)
  (hr: ∀u,(execOp a.eval o).run tP u= .ok (.enter g args) u:=by intro u;have h:=(‹Sl _ _ _›).2.2;simp only[SlA] at h;simp[go_sem,h]):
  GL tP f (.inRegion ops (i::rest)::kk) R a w:=FD hS ho hw hdst hd hn hr hcall k
end
noncomputable def lw6:Code:=match lv5 with
 | .seq _ c=>c
 |_=> .skip
noncomputable def lw7:Code:=match lw6 with
 | .seq _ c=>c
 |_=> .skip
noncomputable def lw8:Code:=match lw7 with
 | .seq _ c=>c
 |_=> .skip
theorem abB {R:Value->World->Prop} {b1 ha hc la9 lc9 ca cc:Nat} {a:Act} {u:World} {V:BkV} (hB:dL u b1 V exB) (hS:Sl a 302 [(9,.int .i64 0),(8,.int .i64 60),(7,.slice (some ⟨ca,0,none⟩) 4 cc),(6,.int .i64 0),(5,.slice (some ⟨la9,0,none⟩) 4 lc9),(4,.int .i64 0),(3,.int .i64 80),(2,.slice (some ⟨ha,0,none⟩) 4 hc),(1,.pointer (some ⟨b1,0,none⟩)),(0,.bool false)])
  (k: ∀a' u',Kept u.heap.size u u'->Sl a' 302 [(11,.int .i64 0),(10,.int .i64 2),(9,.int .i64 0),(8,.int .i64 60),(7,.slice (some ⟨ca,0,none⟩) 4 cc),(6,.int .i64 0),(5,.slice (some ⟨la9,0,none⟩) 4 lc9),(4,.int .i64 0),(3,.int .i64 80),(2,.slice (some ⟨ha,0,none⟩) 4 hc),(1,.pointer (some ⟨b1,0,none⟩)),(0,.bool false)]->GL tP 15 [.code lw6] R a' u'):GL tP 15 [.code lv5] R a u:=by
 simp only[lv5,lu,Tryd.f15,Option.getD_some];refine kV good (oJ good ?_);refine BJ hB hS fun a hS=> ?_;refine BK 2 1 1 0 hS fun a u1 b hk1 hx hS=> ?_;have hB1:=hB.kept hk1;refine pz (qO u1 V exB [2,1,1,0] _ 4 hB1.book hB1.rows hB1.vars hx (by decide)) hS ?_;rintro a v u2 ⟨rfl,hk2⟩ hS;rw[abe] at hS;refine aU (.tuple #[.int .i64 2,.int .i64 0]) hS fun a hS=> ?_;refine aU (.int .i64 2) hS fun a hS=> ?_;refine aU (.int .i64 0) hS fun a hS=> ?_;refine aU (.int .i64 2) hS fun a hS=> ?_;refine aU (.int .i64 0) hS fun a hS=> ?_;refine lY good ?_;exact k a u2 (hk1.trans (hk2.mono hk1.size)) ⟨hS.1,hS.2.1,hS.2.2.1,hS.2.2.2.1,hS.2.2.2.2.2.2.2.2.2.2⟩
theorem abC {R:Value->World->Prop} {b1 ha hc la9 lc9 ca cc:Nat} {a:Act} {u:World} {V:BkV} (hB:dL u b1 V exB) (hS:Sl a 302 [(11,.int .i64 0),(10,.int .i64 2),(9,.int .i64 0),(8,.int .i64 60),(7,.slice (some ⟨ca,0,none⟩) 4 cc),(6,.int .i64 0),(5,.slice (some ⟨la9,0,none⟩) 4 lc9),(4,.int .i64 0),(3,.int .i64 80),(2,.slice (some ⟨ha,0,none⟩) 4 hc),(1,.pointer (some ⟨b1,0,none⟩)),(0,.bool false)])
  (k: ∀a' u',Kept u.heap.size u u'->Sl a' 302 [(13,.int .i64 0),(12,.int .i64 0),(11,.int .i64 0),(10,.int .i64 2),(9,.int .i64 0),(8,.int .i64 60),(7,.slice (some ⟨ca,0,none⟩) 4 cc),(6,.int .i64 0),(5,.slice (some ⟨la9,0,none⟩) 4 lc9),(4,.int .i64 0),(3,.int .i64 80),(2,.slice (some ⟨ha,0,none⟩) 4 hc),(1,.pointer (some ⟨b1,0,none⟩)),(0,.bool false)]->GL tP 15 [.code lw7] R a' u'):GL tP 15 [.code lw6] R a u:=by
 simp only[lw6,lv5,lu,Tryd.f15,Option.getD_some];refine kV good (oJ good ?_);refine BJ hB hS fun a hS=> ?_;refine BK 1 1 1 3 hS fun a u1 b hk1 hx hS=> ?_;have hB1:=hB.kept hk1;refine pz (qO u1 V exB [1,1,1,3] _ 4 hB1.book hB1.rows hB1.vars hx (by decide)) hS ?_;rintro a v u2 ⟨rfl,hk2⟩ hS;rw[abf] at hS;refine aU (.tuple #[.int .i64 0,.int .i64 0]) hS fun a hS=> ?_;refine aU (.int .i64 0) hS fun a hS=> ?_;refine aU (.int .i64 0) hS fun a hS=> ?_;refine aU (.int .i64 0) hS fun a hS=> ?_;refine aU (.int .i64 0) hS fun a hS=> ?_;refine lY good ?_;exact k a u2 (hk1.trans (hk2.mono hk1.size)) ⟨hS.1,hS.2.1,hS.2.2.1,hS.2.2.2.1,hS.2.2.2.2.2.2.2.2.2.2⟩
theorem abD {R:Value->World->Prop} {b1 ha hc la9 lc9 ca cc:Nat} {a:Act} {u:World} {V:BkV} (hB:dL u b1 V exB) (hS:Sl a 302 [(13,.int .i64 0),(12,.int .i64 0),(11,.int .i64 0),(10,.int .i64 2),(9,.int .i64 0),(8,.int .i64 60),(7,.slice (some ⟨ca,0,none⟩) 4 cc),(6,.int .i64 0),(5,.slice (some ⟨la9,0,none⟩) 4 lc9),(4,.int .i64 0),(3,.int .i64 80),(2,.slice (some ⟨ha,0,none⟩) 4 hc),(1,.pointer (some ⟨b1,0,none⟩)),(0,.bool false)])
  (k: ∀a' u',Kept u.heap.size u u'->Sl a' 302 [(15,.int .i64 0),(14,.int .i64 1),(13,.int .i64 0),(12,.int .i64 0),(11,.int .i64 0),(10,.int .i64 2),(9,.int .i64 0),(8,.int .i64 60),(7,.slice (some ⟨ca,0,none⟩) 4 cc),(6,.int .i64 0),(5,.slice (some ⟨la9,0,none⟩) 4 lc9),(4,.int .i64 0),(3,.int .i64 80),(2,.slice (some ⟨ha,0,none⟩) 4 hc),(1,.pointer (some ⟨b1,0,none⟩)),(0,.bool false)]->GL tP 15 [.code lw8] R a' u'):GL tP 15 [.code lw7] R a u:=by
 simp only[lw7,lw6,lv5,lu,Tryd.f15,Option.getD_some];refine kV good (oJ good ?_);refine BJ hB hS fun a hS=> ?_;refine BK 2 1 1 2 hS fun a u1 b hk1 hx hS=> ?_;have hB1:=hB.kept hk1;refine pz (qO u1 V exB [2,1,1,2] _ 4 hB1.book hB1.rows hB1.vars hx (by decide)) hS ?_;rintro a v u2 ⟨rfl,hk2⟩ hS;rw[abg] at hS;refine aU (.tuple #[.int .i64 1,.int .i64 0]) hS fun a hS=> ?_;refine aU (.int .i64 1) hS fun a hS=> ?_;refine aU (.int .i64 0) hS fun a hS=> ?_;refine aU (.int .i64 1) hS fun a hS=> ?_;refine aU (.int .i64 0) hS fun a hS=> ?_;refine lY good ?_;exact k a u2 (hk1.trans (hk2.mono hk1.size)) ⟨hS.1,hS.2.1,hS.2.2.1,hS.2.2.2.1,hS.2.2.2.2.2.2.2.2.2.2⟩
noncomputable def vk:Code:=match lw8 with
 | .seq _ (.seq _ (.seq _ (.seq _ (.seq _ (.seq _ (.seq _ c))))))=>c
 |_=> .skip
theorem vw {u:World} {V:BkV} (h:aB u V exB):V.pa=none->V.pc=0:=fun e=>by
 obtain⟨b,o,sa,sc,h1,_⟩:=h.pairs 0 (exB.pairs[0]'(by decide)) (lG (by decide));rw[e] at h1
 cases h1
theorem abE (V:BkV) (u:World) (b:Nat) (hs:aB u V exB) (hv:Vars u) (hx:SlI u (some ⟨b,0,none⟩) [1,1,1,3]):Calls tP 25 #[V.val exB,.slice (some ⟨b,0,none⟩) 4 4] u fun e u'=>e= .returned (.tuple #[.int .i64 0,.int .i64 0,.int .i64 1,.int .i64 0])/\Below u.heap.size u u':=by
 have h:=c25 V exB [1,1,1,3] (some ⟨b,0,none⟩) 4 u hs hv hx (by decide);rw[abq] at h;exact h
theorem abG (V:BkV) (u:World) (b:Nat) (hs:aB u V exB) (hv:Vars u) (hx:SlI u (some ⟨b,0,none⟩) [2,2,1,3]):Calls tP 27 #[V.val exB,.slice (some ⟨b,0,none⟩) 4 4] u fun e u'=> ∃fa fc,e= .returned (.tuple #[.slice (some ⟨fa,0,none⟩) 4 fc,.int .i64 0])/\SlI u' (some ⟨fa,0,none⟩) [0,1,0,0]/\Below u.heap.size u u':=by
 refine(c27 V exB [2,2,1,3] (some ⟨b,0,none⟩) 4 u hs hv hx (by decide)).mono ?_;rintro e u' h;unfold qP at h;rw[if_pos (NS _ (by decide) (by decide))] at h;obtain⟨v,rfl,ho,hb⟩:=h;have ho2:u'.ownsRow u.heap.size 3 1 v ([0,1,0,0]:List Int).length (ints [0,1,0,0]):=by rw[<-abh];exact ho
 obtain⟨fa,fc,rfl,_,_,hsl,_⟩:=nO ho2 (by decide);exact⟨fa,fc,rfl,hsl,hb⟩
theorem abH (V:BkV) (u:World) (hs:aB u V exB) (hv:Vars u):Calls tP 50 #[V.val exB] u fun e u'=>e= .returned (.tuple #[.int .i64 3,.int .i64 20,.int .i64 0])/\Below u.heap.size u u':=by
 have h:=c50 V exB u hs hv;rw[aa9] at h;exact h
theorem abI (V:BkV) (u:World) (hs:aB u V exB) (hv:Vars u):Calls tP 42 #[V.val exB,.int .i64 2,.int .i64 1] u fun e u'=>e= .returned (.tuple #[.int .i64 5,.int .i64 0])/\Below u.heap.size u u':=by
 have h:=aaI V exB 2 1 u hs hv (vw hs) (gY lq) (by decide) (by decide) (by decide+kernel);rw[show nU exB 2 ((1 :Nat):Int)=_ from abj] at h;exact h
theorem abJ (V:BkV) (u:World) (hs:aB u V exB) (hv:Vars u):Calls tP 45 #[V.val exB,.int .i64 0,.int .i64 75] u fun e u'=>e= .returned (.tuple #[.int .i64 1,.int .i64 0])/\Below u.heap.size u u':=by
 have h:=NH V exB 0 75 u hs hv (vw hs) (by decide) lq (by decide);rw[abk] at h;exact h
theorem abK (V:BkV) (u:World) (hs:aB u V exB) (hv:Vars u):Calls tP 45 #[V.val exB,.int .i64 0,.int .i64 59] u fun e u'=>e= .returned (.tuple #[.int .i64 0,.int .i64 9])/\Below u.heap.size u u':=by
 have h:=NH V exB 0 59 u hs hv (vw hs) (by decide) lq (by decide);rw[abl] at h;exact h
theorem abL (V:BkV) (u:World) (hs:aB u V exB) (hv:Vars u):Calls tP 48 #[V.val exB,.int .i64 50] u fun e u'=> ∃V' O,e= .returned (.tuple #[V'.val exB,.int .i64 0])/\bI u' u.heap.size V' (bQ exB 50) O/\Below u.heap.size u u':=
 aaP V exB 50 u hs hv (vw hs) lq (by decide) abm
def LwB (w:World) (b1 ha hc la9 lc9 ca cc:Nat) (it:List Item) (a:Act) (u:World):Prop:= ∃sp sc gb V' n O,it= [.code vk]/\Sl a 302 [(32,.int .i64 0),(31,.pointer (some ⟨gb,0,none⟩)),(30,.int .i64 9),(29,.int .i64 0),(28,.int .i64 0),(27,.int .i64 1),(26,.int .i64 0),(25,.int .i64 5),(24,.int .i64 0),(23,.int .i64 20),(22,.int .i64 3),(21,.int .i64 0),(20,.slice (some ⟨sp,0,none⟩) 4 sc),(19,.int .i64 0),(18,.int .i64 1),(17,.int .i64 0),(16,.int .i64 0),(15,.int .i64 0),(14,.int .i64 1),(13,.int .i64 0),(12,.int .i64 0),(11,.int .i64 0),(10,.int .i64 2),(9,.int .i64 0),(8,.int .i64 60),(7,.slice (some ⟨ca,0,none⟩) 4 cc),(6,.int .i64 0),(5,.slice (some ⟨la9,0,none⟩) 4 lc9),(4,.int .i64 0),(3,.int .i64 80),(2,.slice (some ⟨ha,0,none⟩) 4 hc),(1,.pointer (some ⟨b1,0,none⟩)),(0,.bool false)]/\SlI u (some ⟨sp,0,none⟩) [0,1,0,0]/\
 u.cell? ⟨gb,3,none⟩=some (.slice V'.pa exB.pairs.length V'.pc)/\bI u n V' (bQ exB 50) O/\Below w.heap.size w u
theorem abM (b1 ha hc la9 lc9 ca cc:Nat) (a:Act) (w:World) (V:BkV) (hB:dL w b1 V exB) (hS:Sl a 302 [(15,.int .i64 0),(14,.int .i64 1),(13,.int .i64 0),(12,.int .i64 0),(11,.int .i64 0),(10,.int .i64 2),(9,.int .i64 0),(8,.int .i64 60),(7,.slice (some ⟨ca,0,none⟩) 4 cc),(6,.int .i64 0),(5,.slice (some ⟨la9,0,none⟩) 4 lc9),(4,.int .i64 0),(3,.int .i64 80),(2,.slice (some ⟨ha,0,none⟩) 4 hc),(1,.pointer (some ⟨b1,0,none⟩)),(0,.bool false)]):
  Comes tP [.code lw8] (LwB w b1 ha hc la9 lc9 ca cc) a w:=by
 obtain⟨ta,la,pa,tc,lc,pc⟩:=V;obtain⟨t,rfl,hT⟩:=hS.lit;simp only[SlT] at hT;obtain⟨h15,h14,h13,h12,h11,h10,h9,h8,h7,h6,h5,h4,h3,h2,h1,h0,_⟩:=hT;simp only[up,Nat.reduceAdd,h15,h14,h13,h12,h11,h10,h9,h8,h7,h6,h5,h4,h3,h2,h1,h0];clear h15 h14 h13 h12 h11 h10 h9 h8 h7 h6 h5 h4 h3 h2 h1 h0 hS;have HB:Hid (∀u,Below w.heap.size w u->dL u b1 ⟨ta,la,pa,tc,lc,pc⟩ exB):=lH fun u hu=>hB.below hu;have hz:b1<w.heap.size:=wBk _ _ hB.c0;have e0:=hB.c0;have e1:=hB.c1;have e2:=hB.c2;have e3:=hB.c3;have HK0:Hid (Below w.heap.size w w):=lH (bR _ _);clear hB;simp only[lw8,lw7,lw6,lv5,lu,Tryd.f15,Option.getD_some];refine aK (bg ?_)
 go_wp2_with fail
 generalize hWe:w.alloc (.cells #[.int .i64 1,.int .i64 1,.int .i64 1,.int .i64 3] 3)=W1;have hbe:Below w.heap.size w W1:=by subst hWe;exact(bR _ _).alloc (nR _) _
 have hsl:SlI W1 (some ⟨w.heap.size,0,none⟩) [1,1,1,3]:=by subst hWe;exact sl4 (by go_simp) (by go_simp) (by go_simp) (by go_simp)
 have HL1:=lH (HK0.out.trans (hbe.mono HK0.out.size));have hbk:=HB.out W1 HL1.out;refine(abE ⟨ta,la,pa,tc,lc,pc⟩ W1 w.heap.size hbk.book hbk.vars hsl).mono ?_;rintro e w1 ⟨rfl,hb4⟩;have HK1:=lH (HL1.out.trans (hb4.mono HL1.out.size));clear hWe hbe hsl hbk hb4 hz e0 e1 e2 e3;have hb':=HB.out w1 HK1.out;have e0:=hb'.c0;have e1:=hb'.c1;have e2:=hb'.c2;have e3:=hb'.c3;have hz:b1<w1.heap.size:=wBk _ _ e0;clear hb';go_wp2;refine aK (bg ?_)
 go_wp2_with fail
 generalize hWe:w1.alloc (.cells #[.int .i64 2,.int .i64 2,.int .i64 1,.int .i64 3] 3)=W2;have hbe:Below w1.heap.size w1 W2:=by subst hWe;exact(bR _ _).alloc (nR _) _
 have hsl:SlI W2 (some ⟨w1.heap.size,0,none⟩) [2,2,1,3]:=by subst hWe;exact sl4 (by go_simp) (by go_simp) (by go_simp) (by go_simp)
 have HL2:=lH (HK1.out.trans (hbe.mono HK1.out.size));have hbk:=HB.out W2 HL2.out;refine(abG ⟨ta,la,pa,tc,lc,pc⟩ W2 w1.heap.size hbk.book hbk.vars hsl).mono ?_;rintro e w2 ⟨sp,sc,rfl,hsp,hb4⟩;have HK2:=lH (HL2.out.trans (hb4.mono HL2.out.size));have HS2:=lH hsp;clear hsp;clear hWe hbe hsl hbk hb4 hz e0 e1 e2 e3;have hb':=HB.out w2 HK2.out;have e0:=hb'.c0;have e1:=hb'.c1;have e2:=hb'.c2;have e3:=hb'.c3;have hz:b1<w2.heap.size:=wBk _ _ e0;clear hb';go_wp2;refine aK (bg ?_)
 go_wp2_with fail
 have hbk:=HB.out w2 HK2.out;refine(abH ⟨ta,la,pa,tc,lc,pc⟩ w2 hbk.book hbk.vars).mono ?_;rintro e w3 ⟨rfl,hb4⟩;have HK3:=lH (HK2.out.trans (hb4.mono HK2.out.size));have HS3:=lH (HS2.out.below hb4 (nR _));clear hbk hb4 hz e0 e1 e2 e3;have hb':=HB.out w3 HK3.out;have e0:=hb'.c0;have e1:=hb'.c1;have e2:=hb'.c2;have e3:=hb'.c3;have hz:b1<w3.heap.size:=wBk _ _ e0;clear hb';go_wp2;refine aK (bg ?_)
 go_wp2_with fail
 have hbk:=HB.out w3 HK3.out;refine(abI ⟨ta,la,pa,tc,lc,pc⟩ w3 hbk.book hbk.vars).mono ?_;rintro e w4 ⟨rfl,hb4⟩;have HK4:=lH (HK3.out.trans (hb4.mono HK3.out.size));have HS4:=lH (HS3.out.below hb4 (nR _));clear hbk hb4 hz e0 e1 e2 e3;have hb':=HB.out w4 HK4.out;have e0:=hb'.c0;have e1:=hb'.c1;have e2:=hb'.c2;have e3:=hb'.c3;have hz:b1<w4.heap.size:=wBk _ _ e0;clear hb';go_wp2;refine aK (bg ?_)
 go_wp2_with fail
 have hbk:=HB.out w4 HK4.out;refine(abJ ⟨ta,la,pa,tc,lc,pc⟩ w4 hbk.book hbk.vars).mono ?_;rintro e w5 ⟨rfl,hb4⟩;have HK5:=lH (HK4.out.trans (hb4.mono HK4.out.size));have HS5:=lH (HS4.out.below hb4 (nR _));clear hbk hb4 hz e0 e1 e2 e3;have hb':=HB.out w5 HK5.out;have e0:=hb'.c0;have e1:=hb'.c1;have e2:=hb'.c2;have e3:=hb'.c3;have hz:b1<w5.heap.size:=wBk _ _ e0;clear hb';go_wp2;refine aK (bg ?_)
 go_wp2_with fail
 have hbk:=HB.out w5 HK5.out;refine(abK ⟨ta,la,pa,tc,lc,pc⟩ w5 hbk.book hbk.vars).mono ?_;rintro e w6 ⟨rfl,hb4⟩;have HK6:=lH (HK5.out.trans (hb4.mono HK5.out.size));have HS6:=lH (HS5.out.below hb4 (nR _));clear hbk hb4 hz e0 e1 e2 e3;have hb':=HB.out w6 HK6.out;have e0:=hb'.c0;have e1:=hb'.c1;have e2:=hb'.c2;have e3:=hb'.c3;have hz:b1<w6.heap.size:=wBk _ _ e0;clear hb';go_wp2;refine aK (bg ?_)
 go_wp2_with fail
 have hbk:=HB.out w6 HK6.out;refine(abL ⟨ta,la,pa,tc,lc,pc⟩ w6 hbk.book hbk.vars).mono ?_;rintro e w7 ⟨V',O,rfl,hO,hb4⟩;have HK7:=lH (HK6.out.trans (hb4.mono HK6.out.size));have HS7:=lH (HS6.out.below hb4 (nR _));have HO:=lH hO;clear hO;obtain⟨va,vl,vp,vtc,vlc,vpc⟩:=V';clear hbk hb4 hz e0 e1 e2 e3;have hb':=HB.out w7 HK7.out;have e0:=hb'.c0;have e1:=hb'.c1;have e2:=hb'.c2;have e3:=hb'.c3;have hz:b1<w7.heap.size:=wBk _ _ e0;clear hb';go_wp2;have hbz:Below w7.heap.size w7 (w7.alloc (.cells #[.int .i64 exB.hours,.slice va exB.towns.length vtc,.slice vl exB.links.length vlc,.slice vp exB.pairs.length vpc] 26)):=(bR _ _).alloc (nR _) _;exact dO ⟨sp,sc,w7.heap.size,⟨va,vl,vp,vtc,vlc,vpc⟩,_,O,rfl,⟨rfl,rfl,rfl,rfl,rfl,rfl,rfl,rfl,rfl,rfl,rfl,rfl,rfl,rfl,rfl,rfl,rfl,rfl,rfl,rfl,rfl,rfl,rfl,rfl,rfl,rfl,rfl,rfl,rfl,rfl,rfl,rfl,rfl,rfl,rfl,trivial⟩,HS7.out.below hbz (nR _),by go_simp,HO.out.below hbz,HK7.out.trans (hbz.mono HK7.out.size)⟩
noncomputable def FH:Code:=match vk with
 | .seq _ c=>c
 |_=> .skip
theorem abN {R:Value->World->Prop} {b1 ha hc la9 lc9 ca cc sp sc gb:Nat} {a:Act} {u:World} {V:BkV} (hB:dL u b1 V exB) (hS:Sl a 302 [(32,.int .i64 0),(31,.pointer (some ⟨gb,0,none⟩)),(30,.int .i64 9),(29,.int .i64 0),(28,.int .i64 0),(27,.int .i64 1),(26,.int .i64 0),(25,.int .i64 5),(24,.int .i64 0),(23,.int .i64 20),(22,.int .i64 3),(21,.int .i64 0),(20,.slice (some ⟨sp,0,none⟩) 4 sc),(19,.int .i64 0),(18,.int .i64 1),(17,.int .i64 0),(16,.int .i64 0),(15,.int .i64 0),(14,.int .i64 1),(13,.int .i64 0),(12,.int .i64 0),(11,.int .i64 0),(10,.int .i64 2),(9,.int .i64 0),(8,.int .i64 60),(7,.slice (some ⟨ca,0,none⟩) 4 cc),(6,.int .i64 0),(5,.slice (some ⟨la9,0,none⟩) 4 lc9),(4,.int .i64 0),(3,.int .i64 80),(2,.slice (some ⟨ha,0,none⟩) 4 hc),(1,.pointer (some ⟨b1,0,none⟩)),(0,.bool false)])
  (k: ∀a' u',Kept u.heap.size u u'->Sl a' 302 [(35,.int .i64 0),(34,.bool true),(33,.int .i64 1),(32,.int .i64 0),(31,.pointer (some ⟨gb,0,none⟩)),(30,.int .i64 9),(29,.int .i64 0),(28,.int .i64 0),(27,.int .i64 1),(26,.int .i64 0),(25,.int .i64 5),(24,.int .i64 0),(23,.int .i64 20),(22,.int .i64 3),(21,.int .i64 0),(20,.slice (some ⟨sp,0,none⟩) 4 sc),(19,.int .i64 0),(18,.int .i64 1),(17,.int .i64 0),(16,.int .i64 0),(15,.int .i64 0),(14,.int .i64 1),(13,.int .i64 0),(12,.int .i64 0),(11,.int .i64 0),(10,.int .i64 2),(9,.int .i64 0),(8,.int .i64 60),(7,.slice (some ⟨ca,0,none⟩) 4 cc),(6,.int .i64 0),(5,.slice (some ⟨la9,0,none⟩) 4 lc9),(4,.int .i64 0),(3,.int .i64 80),(2,.slice (some ⟨ha,0,none⟩) 4 hc),(1,.pointer (some ⟨b1,0,none⟩)),(0,.bool false)]->GL tP 15 [.code FH] R a' u'):GL tP 15 [.code vk] R a u:=by
 have hpc:=vw hB.book;simp only[vk,lw8,lw7,lw6,lv5,lu,Tryd.f15,Option.getD_some];refine kV good (oJ good ?_);refine BJ hB hS fun a hS=> ?_;refine BK 2 1 1 2 hS fun a u1 b hk1 hx hS=> ?_;have hB1:=hB.kept hk1;refine pz (aa7 u1 V exB [2,1,1,2] _ 4 10 hB1.book hB1.rows hpc hB1.vars hx (by decide) (NS _ (by decide) (by decide)) (by decide)) hS ?_;rintro a v u2 ⟨hv,hk2⟩ hS;rw[abn] at hv;have hv2:v= .tuple #[.int .i64 1,.bool true,.int .i64 0]:=hv;subst hv2;refine aU (.tuple #[.int .i64 1,.bool true,.int .i64 0]) hS fun a hS=> ?_;refine aU (.int .i64 1) hS fun a hS=> ?_;refine aU (.bool true) hS fun a hS=> ?_;refine aU (.int .i64 0) hS fun a hS=> ?_;refine aU (.int .i64 1) hS fun a hS=> ?_;refine aU (.bool true) hS fun a hS=> ?_;refine aU (.int .i64 0) hS fun a hS=> ?_;refine lY good ?_;exact k a u2 (hk1.trans (hk2.mono hk1.size)) ⟨hS.1,hS.2.1,hS.2.2.1,hS.2.2.2.1,hS.2.2.2.2.1,hS.2.2.2.2.2.2.2.2.2.2.2.2⟩
theorem abO (V:BkV) (u:World) (b c:Nat) (hs:aB u V exB) (hv:Vars u) (hx:SlI u (some ⟨b,0,none⟩) [2,1,1,3]) (hc:SlI u (some ⟨c,0,none⟩) [1,4,0]):Calls tP 23 #[V.val exB,.slice (some ⟨b,0,none⟩) 4 4,.slice (some ⟨c,0,none⟩) 3 3] u fun e u'=>e= .returned (.tuple #[.bool true,.int .i64 0])/\Below u.heap.size u u':=by
 have h:=c23 V exB [2,1,1,3] [1,4,0] (some ⟨b,0,none⟩) (some ⟨c,0,none⟩) 4 3 u hs hv hx (by decide) hc (by decide);rw[abo] at h;exact h
theorem abP (V:BkV) (u:World) (b:Nat) (hs:aB u V exB) (hv:Vars u) (hx:SlI u (some ⟨b,0,none⟩) [4,3,1,0]):Calls tP 40 #[V.val exB,.slice (some ⟨b,0,none⟩) 4 4] u fun e u'=>e= .returned (.tuple #[.int .i64 80,.int .i64 0])/\Below u.heap.size u u':=by
 have h:=c40 V exB [4,3,1,0] (some ⟨b,0,none⟩) 4 u hs hv hx (by decide);rw[abp] at h;exact h
theorem sl3 {u:World} {b:Nat} {p q r:Int} (h0:u.cell? ⟨b,0,none⟩=some (.int .i64 p)) (h1:u.cell? ⟨b,1,none⟩=some (.int .i64 q)) (h2:u.cell? ⟨b,2,none⟩=some (.int .i64 r)):SlI u (some ⟨b,0,none⟩) [p,q,r]:=fun j x hx=>by
 match j,hx with
 | 0,hx=>cases hx;exact⟨b,0,rfl,h0⟩
 | 1,hx=>cases hx;exact⟨b,0,rfl,h1⟩
 | 2,hx=>cases hx;exact⟨b,0,rfl,h2⟩
theorem abQ {u W:World} {x:Obj} {gb pb cb scc pc:Nat} (h:Below u.heap.size u W) (h1:W.cell? ⟨gb,3,none⟩=some (.slice (some ⟨pb,0,none⟩) 3 pc)) (h2:W.cell? ⟨pb,1*3+2,none⟩=some (.slice (some ⟨cb,0,none⟩) 2 scc)) (_:gb<u.heap.size) (_:pb<u.heap.size):
  Below u.heap.size u (W.alloc x)/\(W.alloc x).cell? ⟨gb,3,none⟩=some (.slice (some ⟨pb,0,none⟩) 3 pc)/\(W.alloc x).cell? ⟨pb,1*3+2,none⟩=some (.slice (some ⟨cb,0,none⟩) 2 scc):=
 ⟨h.alloc h.size _,cell_below ((bR _ _).alloc (nR _) _) h1 (nR _),cell_below ((bR _ _).alloc (nR _) _) h2 (nR _)⟩
theorem abR (b1 ha hc la9 lc9 ca cc sp sc gb:Nat) (a:Act) (w:World) (V:BkV) (pb cb scc pcc:Nat) (hB:dL w b1 V exB) (hA:LvA w ha la9 ca) (hS:SlI w (some ⟨sp,0,none⟩) [0,1,0,0]) (hp:w.cell? ⟨gb,3,none⟩=some (.slice (some ⟨pb,0,none⟩) 3 pcc)) (hO:w.cell? ⟨pb,1*3+2,none⟩=some (.slice (some ⟨cb,0,none⟩) 2 scc)) (hX:SlB w (some ⟨cb,0,none⟩) [(0,3),(5,5)])
  (hSl:Sl a 302 [(35,.int .i64 0),(34,.bool true),(33,.int .i64 1),(32,.int .i64 0),(31,.pointer (some ⟨gb,0,none⟩)),(30,.int .i64 9),(29,.int .i64 0),(28,.int .i64 0),(27,.int .i64 1),(26,.int .i64 0),(25,.int .i64 5),(24,.int .i64 0),(23,.int .i64 20),(22,.int .i64 3),(21,.int .i64 0),(20,.slice (some ⟨sp,0,none⟩) 4 sc),(19,.int .i64 0),(18,.int .i64 1),(17,.int .i64 0),(16,.int .i64 0),(15,.int .i64 0),(14,.int .i64 1),(13,.int .i64 0),(12,.int .i64 0),(11,.int .i64 0),(10,.int .i64 2),(9,.int .i64 0),(8,.int .i64 60),(7,.slice (some ⟨ca,0,none⟩) 4 cc),(6,.int .i64 0),(5,.slice (some ⟨la9,0,none⟩) 4 lc9),(4,.int .i64 0),(3,.int .i64 80),(2,.slice (some ⟨ha,0,none⟩) 4 hc),(1,.pointer (some ⟨b1,0,none⟩)),(0,.bool false)]):FH.wp tP (bodyPost tP Tryd.f15 fun e w'=>e= .returned (.bool true)/\Below w.heap.size w w') a w:=by
 obtain⟨ta,la,pa,tc,lc,pc⟩:=V;obtain⟨t,rfl,hT⟩:=hSl.lit;simp only[SlT] at hT;obtain⟨h35,h34,h33,h32,h31,h30,h29,h28,h27,h26,h25,h24,h23,h22,h21,h20,h19,h18,h17,h16,h15,h14,h13,h12,h11,h10,h9,h8,h7,h6,h5,h4,h3,h2,h1,h0,_⟩:=hT;simp only[up,Nat.reduceAdd,h35,h34,h33,h32,h31,h30,h29,h28,h27,h26,h25,h24,h23,h22,h21,h20,h19,h18,h17,h16,h15,h14,h13,h12,h11,h10,h9,h8,h7,h6,h5,h4,h3,h2,h1,h0];clear h35 h34 h33 h32 h31 h30 h29 h28 h27 h26 h25 h24 h23 h22 h21 h20 h19 h18 h17 h16 h15 h14 h13 h12 h11 h10 h9 h8 h7 h6 h5 h4 h3 h2 h1 h0 hSl;have HB:Hid (∀u,Below w.heap.size w u->dL u b1 ⟨ta,la,pa,tc,lc,pc⟩ exB):=lH fun u hu=>hB.below hu;have hz:b1<w.heap.size:=wBk _ _ hB.c0;have e0:=hB.c0;have e1:=hB.c1;have e2:=hB.c2;have e3:=hB.c3;have HA:=lH hA;have HS:=lH hS;have HP:=lH hp;have HO:=lH hO;have HX0:=lH hX;clear hB hA hS hp hO hX;simp only[FH,vk,lw8,lw7,lw6,lv5,lu,Tryd.f15,Option.getD_some]
 go_wp2_with fail
 generalize hWe:(w.alloc (.cells #[.int .i64 2,.int .i64 1,.int .i64 1,.int .i64 3] 3)).alloc (.cells #[.int .i64 1,.int .i64 4,.int .i64 0] 3)=W1;have hbe:Below w.heap.size w W1:=by subst hWe;exact((bR _ _).alloc (nR _) _).alloc (by simp) _
 have hsl:SlI W1 (some ⟨w.heap.size,0,none⟩) [2,1,1,3]:=by subst hWe;exact sl4 (by go_simp) (by go_simp) (by go_simp) (by go_simp)
 have hsc:SlI W1 (some ⟨w.heap.size+1,0,none⟩) [1,4,0]:=by subst hWe;exact sl3 (by go_simp) (by go_simp) (by go_simp)
 have HL1:=lH hbe;have hbk:=HB.out W1 HL1.out;refine(abO ⟨ta,la,pa,tc,lc,pc⟩ W1 w.heap.size (w.heap.size+1) hbk.book hbk.vars hsl hsc).mono ?_;rintro e w1 ⟨rfl,hb4⟩;have HK1:=lH (HL1.out.trans (hb4.mono HL1.out.size));clear hWe hbe hsl hsc hbk hb4 hz e0 e1 e2 e3;have hb':=HB.out w1 HK1.out;have e0:=hb'.c0;have e1:=hb'.c1;have e2:=hb'.c2;have e3:=hb'.c3;have hz:b1<w1.heap.size:=wBk _ _ e0;clear hb'
 go_wp2_with fail
 generalize hWe:w1.alloc (.cells #[.int .i64 4,.int .i64 3,.int .i64 1,.int .i64 0] 3)=W2;have hbe:Below w1.heap.size w1 W2:=by subst hWe;exact(bR _ _).alloc (nR _) _
 have hsl:SlI W2 (some ⟨w1.heap.size,0,none⟩) [4,3,1,0]:=by subst hWe;exact sl4 (by go_simp) (by go_simp) (by go_simp) (by go_simp)
 have HL2:=lH (HK1.out.trans (hbe.mono HK1.out.size));have hbk:=HB.out W2 HL2.out;refine(abP ⟨ta,la,pa,tc,lc,pc⟩ W2 w1.heap.size hbk.book hbk.vars hsl).mono ?_;rintro e w2 ⟨rfl,hb4⟩;have HK2:=lH (HL2.out.trans (hb4.mono HL2.out.size));clear hWe hbe hsl hbk hb4 hz e0 e1 e2 e3
 go_wp2_with fail
 generalize hWe:w2.alloc (.cells #[.int .i64 4,.int .i64 3,.int .i64 1,.int .i64 0] 3)=W3;have hbe:Below w2.heap.size w2 W3:=by subst hWe;exact(bR _ _).alloc (nR _) _
 have hsl:SlI W3 (some ⟨w2.heap.size,0,none⟩) [4,3,1,0]:=by subst hWe;exact sl4 (by go_simp) (by go_simp) (by go_simp) (by go_simp)
 have HL3:=lH (HK2.out.trans (hbe.mono HK2.out.size));refine(c38 [4,3,1,0] [4,3,1,0] (some ⟨ha,0,none⟩) (some ⟨w2.heap.size,0,none⟩) hc 4 W3 (HA.out.hub.below HL3.out (nR _)) hsl (by decide) (by decide)).mono ?_;rintro e w3 ⟨rfl,hb4⟩;have HK3:=lH (HL3.out.trans (hb4.mono HL3.out.size));clear hWe hbe hsl hb4;rw[show decide (([4,3,1,0]:List Int)= [4,3,1,0])=true from by decide]
 go_wp2_with (go_at_call 44;refine(EO _ _ _).mono ?_;rintro e w' ⟨rfl,rfl⟩)
 generalize hWe:(((((w3.alloc (.cells #[.int .i64 1,.int .i64 4] 53)).alloc (.cells #[.int .i64 1,.int .i64 3] 53)).alloc (.cells #[.int .i64 1,.int .i64 1] 53)).alloc (.cells #[.int .i64 0,.int .i64 0] 53)).alloc (.cells #[.int .i64 1,.int .i64 4,.int .i64 1,.int .i64 3,.int .i64 1,.int .i64 1,.int .i64 0,.int .i64 0] 53))=W4;have hbe:Below w3.heap.size w3 W4:=by subst hWe;exact(((((bR _ _).alloc (nR _) _).alloc (by simp) _).alloc (by simp;omega) _).alloc (by simp;omega) _).alloc (by simp;omega) _
 have hsl:SlB W4 (some ⟨w3.heap.size+1+1+1+1,0,none⟩) [(1,4),(1,3),(1,1),(0,0)]:=fun j x hx=>by
  subst hWe
  match j,hx with
  | 0,hx=>cases hx;exact⟨_,0,rfl,by go_simp,by go_simp⟩
  | 1,hx=>cases hx;exact⟨_,0,rfl,by go_simp,by go_simp⟩
  | 2,hx=>cases hx;exact⟨_,0,rfl,by go_simp,by go_simp⟩
  | 3,hx=>cases hx;exact⟨_,0,rfl,by go_simp,by go_simp⟩
 have HL4:=lH (HK3.out.trans (hbe.mono HK3.out.size));refine(c18 [(1,4),(1,3),(1,1),(0,0)] [(1,4),(1,3),(1,1),(0,0)] (some ⟨la9,0,none⟩) (some ⟨w3.heap.size+1+1+1+1,0,none⟩) lc9 4 W4 (HA.out.loads.below HL4.out (nR _)) hsl (by decide) (by decide)).mono ?_;rintro e w4 ⟨rfl,hb4⟩;have HK4:=lH (HL4.out.trans (hb4.mono HL4.out.size));clear hWe hbe hsl hb4;rw[show decide (([(1,4),(1,3),(1,1),(0,0)]:List (Int×Int))= [(1,4),(1,3),(1,1),(0,0)])=true from by decide]
 go_wp2_with fail
 generalize hWe:w4.alloc (.cells #[.int .i64 2,.int .i64 1,.int .i64 1,.int .i64 2] 3)=W5;have hbe:Below w4.heap.size w4 W5:=by subst hWe;exact(bR _ _).alloc (nR _) _
 have hsl:SlI W5 (some ⟨w4.heap.size,0,none⟩) [2,1,1,2]:=by subst hWe;exact sl4 (by go_simp) (by go_simp) (by go_simp) (by go_simp)
 have HL5:=lH (HK4.out.trans (hbe.mono HK4.out.size));refine(c38 [2,1,1,2] [2,1,1,2] (some ⟨ca,0,none⟩) (some ⟨w4.heap.size,0,none⟩) cc 4 W5 (HA.out.cheap.below HL5.out (nR _)) hsl (by decide) (by decide)).mono ?_;rintro e w5 ⟨rfl,hb4⟩;have HK5:=lH (HL5.out.trans (hb4.mono HL5.out.size));clear hWe hbe hsl hb4;rw[show decide (([2,1,1,2]:List Int)= [2,1,1,2])=true from by decide]
 go_wp2_with fail
 generalize hWe:w5.alloc (.cells #[.int .i64 0,.int .i64 1,.int .i64 0,.int .i64 0] 3)=W6;have hbe:Below w5.heap.size w5 W6:=by subst hWe;exact(bR _ _).alloc (nR _) _
 have hsl:SlI W6 (some ⟨w5.heap.size,0,none⟩) [0,1,0,0]:=by subst hWe;exact sl4 (by go_simp) (by go_simp) (by go_simp) (by go_simp)
 have HL6:=lH (HK5.out.trans (hbe.mono HK5.out.size));refine(c38 [0,1,0,0] [0,1,0,0] (some ⟨sp,0,none⟩) (some ⟨w5.heap.size,0,none⟩) sc 4 W6 (HS.out.below HL6.out (nR _)) hsl (by decide) (by decide)).mono ?_;rintro e w6 ⟨rfl,hb4⟩;have HK6:=lH (HL6.out.trans (hb4.mono HL6.out.size));clear hWe hbe hsl hb4;rw[show decide (([0,1,0,0]:List Int)= [0,1,0,0])=true from by decide];have HP6:=lH (cell_below HK6.out HP.out (nR _));have hp3:=cell_below HK6.out HO.out (nR _);have HX:=lH (HX0.out.below HK6.out (nR _))
 go_wp2_with fail
 have hpg:=HP6.out;have H18:Hid (∀(W:World) (n:Nat),Below w6.heap.size w6 W->W.cell? ⟨n,0,none⟩=some (.int .i64 0)->W.cell? ⟨n,1,none⟩=some (.int .i64 3)->W.cell? ⟨n,2,none⟩=some (.int .i64 5)->W.cell? ⟨n,3,none⟩=some (.int .i64 5)->Calls tP 18 #[.slice (some ⟨cb,0,none⟩) 2 scc,.slice (some ⟨n,0,none⟩) 2 2] W fun e w'=>e= .returned (.bool true)/\Below w6.heap.size w6 w'):=lH fun W n hW k0 k1 k2 k3=>by
  have hsl:SlB W (some ⟨n,0,none⟩) [(0,3),(5,5)]:=fun j x hx=>by
   match j,hx with
   | 0,hx=>cases hx;exact⟨_,0,rfl,k0,k1⟩
   | 1,hx=>cases hx;exact⟨_,0,rfl,k2,k3⟩
  have h:=c18 [(0,3),(5,5)] [(0,3),(5,5)] (some ⟨cb,0,none⟩) (some ⟨n,0,none⟩) scc 2 W (HX.out.below hW (nR _)) hsl (by decide) (by decide);refine h.mono ?_;rintro e w' ⟨rfl,hb⟩;exact⟨rfl,hW.trans (hb.mono hW.size)⟩
 have hz6:gb<w6.heap.size:=wBk _ _ hpg;have hz7:pb<w6.heap.size:=wBk _ _ hp3;have hstart:Below w6.heap.size w6 w6.drew:=(bR _ _).drew;have HK6':=HK6
 go_region_held3 (fun w'=>Below w6.heap.size w6 w'/\w'.cell? ⟨gb,3,none⟩=some (.slice (some ⟨pb,0,none⟩) 3 pcc)/\w'.cell? ⟨pb,1*3+2,none⟩=some (.slice (some ⟨cb,0,none⟩) 2 scc))
  (first
   |exact⟨hstart,hpg,hp3⟩
   |exact⟨hbel,cell_below hbel hpg (nR _),cell_below hbel hp3 (nR _)⟩
   | (go_split_ands;exact abQ (by assumption) (by assumption) (by assumption) hz6 hz7))
  (first
   | (go_simp;go_at_call 44;refine(EO _ _ _).mono ?_;rintro e w1 ⟨rfl,rfl⟩)
   | (go_simp;go_at_call 18;go_split_ands;(with_reducible refine(H18.out _ _ (by assumption) (by go_simp) (by go_simp) (by go_simp) (by go_simp)).mono ?_);rintro e w1 ⟨rfl,hbel⟩))
 go_split_ands;have Hfin:Hid (Below w6.heap.size w6 w1):=lH (by assumption);go_wp2;go_ret;exact⟨rfl,HK6.out.trans (Hfin.out.mono HK6.out.size)⟩
theorem abS {w:World} {τ:Nat->Question->Nat} {d:Nat} (h:Vars w):Vars (w.tp τ d noJ):=h.kept (fC.2 (Kept.refl _ _))
theorem BL:(bQ exB 50).pairs[1]? =some ⟨1,2,[(0,3),(5,5)]⟩:=by
 have h1:((bQ exB 50).pairs[1]?).map (fun p=>(p.one,p.two,p.calls))=some (1,2,[(0,3),(5,5)]):=by decide+kernel
 cases e:(bQ exB 50).pairs[1]? with
 |none=>rw[e] at h1;cases h1
 |some p=>obtain⟨x,y,z⟩:=p;rw[e] at h1;cases h1;rfl
theorem LvA.kept {u u':World} {ha la9 ca:Nat} (h:LvA u ha la9 ca) (hk:Kept u.heap.size u u'):LvA u' ha la9 ca:=⟨h.hub.kept hk,h.loads.kept hk,h.cheap.kept hk⟩
theorem FI:FB:=fun w hv=>by
 refine iK.mono (R:=Sat (mY w)) (Bh good Tryd.func15 (x:=lu) (by rfl) (R:=mY w) ?_) fun v w' h=>Bl (R:=mY w) (R':=mY w) (fun v w' τ d r=>⟨r.1,fC.1 r.2⟩) h;have hact:(⟨#[]++Array.replicate (Tryd.f15.ntmps-(#[]:Array Value).size) undef,[]⟩:Act)=⟨(List.replicate 302 undef).toArray,[]⟩:=by rw[Tryd.ntmps15];rfl
 rw[hact];simp only[List.replicate];refine pq (fun τ=>abv (w.tp τ 0 noJ) (abS hv)) ?_;rintro τ0 it a u ⟨V,b1,ha,hc,la9,lc9,ca,cc,t40,t41,t42,t43,t44,t45,t46,t47,t48,t49,t50,t51,t52,t53,t54,t55,t56,t57,t58,rfl,rfl,⟨B0,B1,B2,B3,B4,B5,B6⟩,hA,hk⟩;have hB:dL u b1 V exB:=⟨B0,B1,B2,B3,B4,B5,B6⟩;have hkw:Kept w.heap.size w u:=mD.1 (by have:=Kept.of_below hk;rwa [jO] at this);clear hk;have hS0:Sl (Fq b1 ha hc la9 lc9 ca cc t40 t41 t42 t43 t44 t45 t46 t47 t48 t49 t50 t51 t52 t53 t54 t55 t56 t57 t58) 302 [(9,.int .i64 0),(8,.int .i64 60),(7,.slice (some ⟨ca,0,none⟩) 4 cc),(6,.int .i64 0),(5,.slice (some ⟨la9,0,none⟩) 4 lc9),(4,.int .i64 0),(3,.int .i64 80),(2,.slice (some ⟨ha,0,none⟩) 4 hc),(1,.pointer (some ⟨b1,0,none⟩)),(0,.bool false)]:=⟨rfl,rfl,rfl,rfl,rfl,rfl,rfl,rfl,rfl,rfl,rfl,rfl,trivial⟩;generalize Fq b1 ha hc la9 lc9 ca cc t40 t41 t42 t43 t44 t45 t46 t47 t48 t49 t50 t51 t52 t53 t54 t55 t56 t57 t58=a at *;refine abB hB hS0 fun a u1 hk1 hS0=> ?_;replace hB:=hB.kept hk1;replace hA:=hA.kept hk1;replace hkw:=hkw.trans (hk1.mono hkw.size);clear hk1;refine abC hB hS0 fun a u1 hk1 hS0=> ?_;replace hB:=hB.kept hk1;replace hA:=hA.kept hk1;replace hkw:=hkw.trans (hk1.mono hkw.size);clear hk1;refine abD hB hS0 fun a u1 hk1 hS0=> ?_;replace hB:=hB.kept hk1;replace hA:=hA.kept hk1;replace hkw:=hkw.trans (hk1.mono hkw.size);clear hk1;rename_i u1;refine pq (fun τ=>abM b1 ha hc la9 lc9 ca cc _ _ V (hB.kept (u':=u1.tp τ 0 noJ) jD) hS0) ?_;rintro τ1 it a u4 ⟨sp,sc,gb,V',n,O,rfl,hS1,hS,hg3,hO,hb⟩;have hk4:Kept u1.heap.size u1 u4:=mD.1 (by have:=Kept.of_below hb;rwa [jO] at this);replace hB:=hB.kept hk4;replace hA:=hA.kept hk4;replace hkw:=hkw.trans (hk4.mono hkw.size);have hpa:=hO.pa 1 _ BL;obtain⟨_,_,scc,hp3⟩:=hO.pairs 1 _ BL;have hca:=hO.calls 1 _ 0 _ BL rfl;have hcb:=hO.calls 1 _ 1 _ BL rfl;rw[hpa,show exB.pairs.length=3 from by decide+kernel] at hg3;have hX:SlB u4 (some ⟨O.cb 1,0,none⟩) [(0,3),(5,5)]:=fun j x hx=>by
  match j,hx with
  | 0,hx=>cases hx;exact⟨_,0,rfl,hca.1,hca.2⟩
  | 1,hx=>cases hx;exact⟨_,0,rfl,hcb.1,hcb.2⟩
 refine abN hB hS1 fun a u5 hk5 hS2=> ?_;have hB:=hB.kept hk5;have hA:=hA.kept hk5;have hS:=hS.kept hk5;have hX:=hX.kept hk5;have hg3:=dV hk5 (nR _) hg3;have hp3:=dV hk5 (nR _) hp3;have hkw:=hkw.trans (hk5.mono hkw.size);refine Bg good Tryd.func15 fun τ=> ?_;have hk6:Kept u5.heap.size u5 (u5.tp τ 0 noJ):=jD;refine Code.wp_mono (fun e a u6 h=> ?_) (abR b1 ha hc la9 lc9 ca cc sp sc gb _ _ V _ _ _ _ (hB.kept hk6) (hA.kept hk6) (hS.kept hk6) (dV hk6 (nR _) hg3) (dV hk6 (nR _) hp3) (hX.kept hk6) hS2);have fin: ∀e,(e=Ending.returned (.bool true)/\Below (u5.tp τ 0 noJ).heap.size (u5.tp τ 0 noJ) u6)-> ∃v,e= .returned v/\mY w v u6:=fun e ⟨h1,h2⟩=>⟨_,h1,rfl,rJ hkw h2⟩
 cases e with
 |normal=>obtain⟨h1,v,h2,h3⟩:=h;exact⟨h1,v,h2,fin _ h3⟩
 |ret=>obtain⟨h1,v,h2,h3⟩:=h;exact⟨h1,v,h2,fin _ h3⟩
 |panic chain=>exact⟨h.1,fin _ h.2⟩
 |exit id=>exact h
 |goto l=>exact h
 |outgrown=>exact fin _ h
theorem abT (B:Bk) (hB:B.Fine) (T T':Nat->Int) (hT: ∀k,T k<=T' k) (n a b:Int) (out out':Nat->Int) (h: ∀j,j<B.spokes->out' j<=out j) (hab:a≠0->1<=a/\a<b):
  ∀j,j<B.spokes->B.go T' n a b out' j<=B.go T n a b out j:=by
 intro j hj;unfold Bk.go;by_cases ha:a=0
 ·rw[if_pos ha,if_pos ha];unfold fup;have h1:=h j hj
  split
  ·rename_i e;rw[<-e];omega
  ·exact h1
 ·rw[if_neg ha,if_neg ha];have hab:=hab ha;have hne:(a-1).toNat≠(b-1).toNat:=by omega
  by_cases hk:0<=B.direct a b
  ·simp only[if_pos hk];have hkb:=pF B hB a b;have hkk:B.spokes<=(B.direct a b).toNat:=by omega
   have hTk:=hT (B.direct a b).toNat;generalize (B.direct a b).toNat=k at *;have h1: ∀x (o:Nat->Int),fup o k x j=o j:=fun x o=>dQ _ _ (by omega);have hj':=h j hj;unfold fup;simp only[if_neg (Ne.symm hne)];have hjk:j≠k:=by omega
   by_cases e1:j=(b-1).toNat
   ·rw[if_pos e1,if_pos e1];rw[<-e1,if_neg hjk,if_neg hjk];omega
   ·rw[if_neg e1,if_neg e1];by_cases e2:j=(a-1).toNat
    ·rw[if_pos e2,if_pos e2,<-e2,if_neg hjk,if_neg hjk];omega
    ·rw[if_neg e2,if_neg e2,if_neg hjk,if_neg hjk];exact hj'
  ·simp only[if_neg hk];have hj':=h j hj;unfold fup;simp only[if_neg (Ne.symm hne)];by_cases e1:j=(b-1).toNat
   ·rw[if_pos e1,if_pos e1,<-e1];omega
   ·rw[if_neg e1,if_neg e1];by_cases e2:j=(a-1).toNat
    ·rw[if_pos e2,if_pos e2,<-e2];omega
    ·rw[if_neg e2,if_neg e2];exact hj'
theorem Oc (B:Bk) (hB:B.Fine) (T T':Nat->Int) (hT: ∀k,T k<=T' k) (c:Nat->Int): ∀i,i<=B.pairs.length-> ∀j,j<B.spokes->B.loadTo T' c i j<=B.loadTo T c i j
 | 0,_,_,_=>Int.le_refl _
 |i+1,hi,j,hj=>by
  unfold Bk.loadTo;have he:=hB.ends i (by omega);exact abT B hB T T' hT _ _ _ _ _ (Oc B hB T T' hT c i (by omega)) (fun h=>by omega) j hj
theorem Oe {l T:Nat->Int}: ∀n i,fJ l T n i<0↔ ∀j,i<=j->j<i+n->l j<=T j
 | 0,i=>by simp only[fJ];exact⟨fun _ j h1 h2=>by omega,fun _=>by omega⟩
 |n+1,i=>by
  unfold fJ;have ih:=Oe (l:=l) (T:=T) n (i+1)
  split
  ·rename_i h;exact⟨fun hh=>by omega,fun hh=>by have:=hh i (nR _) (by omega);omega⟩
  ·rename_i h;rw[ih];refine⟨fun hh j h1 h2=> ?_,fun hh j h1 h2=>hh j (by omega) (by omega)⟩;by_cases e:j=i
   ·subst e;omega
   ·exact hh j (by omega) (by omega)
theorem vC (B:Bk) (T:Nat->Int) (most:Bool) (h:Nat):B.lackIn T most h<0↔ ∀j,j<B.spokes->B.inn T most h j<=T j:=by
 unfold Bk.lackIn Bk.lack;rw[Oe];exact⟨fun hh j hj=>hh j (Nat.zero_le _) (by omega),fun hh j _ hj=>hh j (by omega)⟩
theorem acp (B:Bk) (hB:B.Fine) (T T':Nat->Int) (hT: ∀k,T k<=T' k) (most:Bool) (h:Nat) (hl:B.lackIn T most h<0):B.lackIn T' most h<0:=by
 rw[vC] at hl ⊢;intro j hj;have h1:=hl j hj;have h2:=Oc B hB T T' hT (B.call most h) B.pairs.length (nR _) j hj;have h3:=hT j;unfold Bk.inn Bk.load at *;omega
theorem Og (B:Bk) (T:Nat->Int): ∀n i c,aQ B T n i c=1↔c=1/\ ∀h,i<=h->h<i+n->B.lackIn T false h<0/\B.lackIn T true h<0
 | 0,i,c=>by simp only[aQ];exact⟨fun h=>⟨h,fun _ _ _=>by omega⟩,fun h=>h.1⟩
 |n+1,i,c=>by
  unfold aQ;by_cases h1:0<=B.lackIn T false i
  ·rw[if_pos h1];exact⟨fun h=>by omega,fun h=>by have:=(h.2 i (nR _) (by omega)).1;omega⟩
  ·rw[if_neg h1,Og B T n (i+1)];by_cases h2:0<=B.lackIn T true i
   ·rw[if_pos h2];exact⟨fun h=>by omega,fun h=>by have:=(h.2 i (nR _) (by omega)).2;omega⟩
   ·rw[if_neg h2];refine⟨fun h=>⟨h.1,fun k a b=> ?_⟩,fun h=>⟨h.1,fun k a b=>h.2 k (by omega) (by omega)⟩⟩;by_cases e:k=i
    ·subst e;omega
    ·exact h.2 k (by omega) (by omega)
theorem abU (B:Bk) (T:Nat->Int): ∀n i c,c≠2->(aQ B T n i c=2↔ ∃h,i<=h/\h<i+n/\0<=B.lackIn T false h)
 | 0,i,c,hc=>by simp only[aQ];exact⟨fun h=>absurd h hc,fun⟨h,a,b,_⟩=>by omega⟩
 |n+1,i,c,hc=>by
  unfold aQ;by_cases h1:0<=B.lackIn T false i
  ·rw[if_pos h1];exact⟨fun _=>⟨i,nR _,by omega,h1⟩,fun _=>rfl⟩
  ·rw[if_neg h1,abU B T n (i+1) _ (by split<;>omega)];refine⟨fun⟨h,a,b,q⟩=>⟨h,by omega,by omega,q⟩,fun⟨h,a,b,q⟩=>⟨h, ?_,by omega,q⟩⟩;by_cases e:h=i
   ·subst e;exact absurd q h1
   ·omega
theorem abV (B:Bk) (T:Nat->Int): ∀n i c,(c=0\/c=1)->(aQ B T n i c=0\/aQ B T n i c=1\/aQ B T n i c=2)
 | 0,i,c,hc=>by simp only[aQ];omega
 |n+1,i,c,hc=>by
  unfold aQ;by_cases h1:0<=B.lackIn T false i
  ·rw[if_pos h1];omega
  ·rw[if_neg h1];exact abV B T n (i+1) _ (by split<;>omega)
theorem Oh {st:List (Int×Int)} (hp: ∀x∈st,0<=x.2/\x.2<=99) (m:Nat): ∀n,m<=n->(bF st m).1<=(bF st n).1
  | 0,h=>by have:m=0:=by omega
            subst this;exact Int.le_refl _
  |n+1,h=>by
    by_cases e:m=n+1
    · subst e;exact Int.le_refl _
    · have ih:=Oh hp m n (by omega)
      have:=Bq hp (adv st ((n:Int)+1) (st.length-(bF st n).2) (bF st n).2)
      conv=>rhs;unfold bF
      dsimp only;omega
theorem abW (B:Bk) (i:Int):bH B i 0=0:=rfl
theorem abX {B:Bk} (hG:Good B) (i:Nat): ∀x∈((B.links[i]?).map (·.steps)).getD [],0<=x.2/\x.2<=99:=by
 cases e:B.links[i]? with
 |none=>intro x hx;simp at hx
 |some L=>exact Ez ((hG.links i L e).2.2.2)
theorem abY {B:Bk} (hG:Good B) (i:Nat) {s t:Int} (h:s<=t):bH B i s<=bH B i t:=by
 unfold bH;exact Oh (abX hG _) _ _ (by omega)
theorem abZ {B:Bk} (hG:Good B) {T T':Nat->Int} (h: ∀k,T k<=T' k): ∀n,fZ B T n<=fZ B T' n
 | 0=>Int.le_refl _
 |n+1=>by
  have:=abZ hG h n;have:=abY hG n (h n);unfold fZ;omega
def Oi (i:Nat) (v:Int):Nat->Int:=fun k=>if k=i then v else 0
theorem ab1 (B:Bk) (i:Nat) (v:Int): ∀n,fZ B (Oi i v) n=if i<n then bH B i v else 0
 | 0=>rfl
 |n+1=>by
  unfold fZ;rw[ab1 B i v n];unfold Oi;by_cases e:n=i
  ·subst e;rw[if_pos rfl,if_neg (Nat.lt_irrefl _),if_pos (Nat.lt_succ_self _)];omega
  ·rw[if_neg e,abW];by_cases h:i<n
   ·rw[if_pos h,if_pos (by omega)];omega
   ·rw[if_neg h,if_neg (by omega)];omega
structure iO (w:World) (b:Nat) (xs:List Int):Prop where
 lt:b<w.heap.size
 sl:SlI w (some ⟨b,0,none⟩) xs
 free: ∀j,w.frozen? ⟨b,j,none⟩=false
theorem iO.set {w:World} {b k:Nat} {xs:List Int} (h:iO w b xs) (hk:k<xs.length) (y:Int):iO (w.setCell ⟨b,k,none⟩ (.int .i64 y)) b (xs.set k y):=by
 refine⟨by rw[World.size_setCell];exact h.lt,fun i x hx=>⟨b,0,rfl, ?_⟩,fun j=>by rw[World.frozen?_setCell];exact h.free j⟩;rw[Nat.zero_add];by_cases e:i=k
 ·subst e;rw[List.getElem?_set_self hk] at hx
  cases hx
  obtain⟨_,_,e2,h0⟩:=h.sl i _ (lG hk)
  cases e2
  rw[Nat.zero_add] at h0;exact World.cell?_setCell_same _ _ _ h0
 ·rw[List.getElem?_set_ne (Ne.symm e)] at hx;obtain⟨_,_,e2,h0⟩:=h.sl i x hx
  cases e2
  rw[Nat.zero_add] at h0;rw[World.cell?_setCell_other _ _ _ _ (by intro e3;cases e3;exact e rfl)];exact h0
theorem SlI.far {w:World} {b o:Nat} {xs:List Int} {sa:Option Addr} {v:Value} (h:SlI w sa xs) (hb: ∀b' o',sa=some ⟨b',o',none⟩->b'≠b):SlI (w.setCell ⟨b,o,none⟩ v) sa xs:=fun i x hx=>by
 obtain⟨b',o',e,h0⟩:=h i x hx;exact⟨b',o',e,by rw[World.cell?_setCell_far _ _ _ _ (Ne.symm (hb _ _ e))];exact h0⟩
theorem BM {w:World} {n:Nat} {v:Value} {xs:List Int} (h:w.ownsRow n 3 1 v xs.length (ints xs)) (h1:1<=xs.length):
  ∃b cap,v= .slice (some ⟨b,0,none⟩) xs.length cap/\n<=b/\iO w b xs/\xs.length<=cap/\cap<=maxLen:=by
 obtain⟨b,cap,e,h2,h3,h4,h5,h6⟩:=nO h h1;refine⟨b,cap,e,h2,⟨h3,h4,fun j=> ?_⟩,h5,h6⟩;obtain⟨_,⟨_,h0⟩ |⟨b',cap',cur,e',hb,hrow,_⟩⟩:=h
 ·omega
 ·rw[e] at e'
  cases e'
  simp[World.frozen?,hrow]
end Go.Proofs.YtaikibfkggglgaaDoor
