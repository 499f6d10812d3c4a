/- A part of the proof of a law; no conditions of its own. -/
import Derived.OrdersHeld
import Derived.Test.YtaikibfkggglgaaDoorW27
set_option maxRecDepth 100000
open Nat renaming le_refl→nR
open Go.Lib renaming hid→lH
open Go.RowKit.Below renaming refl→bR
open Go.Proofs.Tryd renaming prog→tP
open List renaming getElem?_eq_getElem→lG
open Go.World renaming block_lt_of_cell?→wBk
open Go.World renaming cell?_setCell_other→wO
open List renaming getD_eq_getElem?_getD→lD
set_option maxHeartbeats 4000000
namespace Go.Proofs.YtaikibfkggglgaaDoor
open Go.RowKit Go.Rent Go.Tp Go.Conc
def aey (B:Bk) (most:Bool) (h n:Nat):List Int:=(List.range n).map (B.call most h)
theorem aeY (B:Bk) (most:Bool) (h n:Nat):ints (aey B most h (n+1))=ints (aey B most h n)++ [.int .i64 (B.call most h n)]:=by
 unfold aey ints;rw[List.range_succ];simp
theorem c60 (V:BkV) (B:Bk) (most:Bool) (h:Nat) (w:World) (hs:aB w V B) (hG:Good B) (hh:(h:Int)<B.hours):
  Calls tP 60 #[V.val B,.int .i64 (h:Int),.bool most] w fun e w'=> ∃v,e= .returned v/\w'.ownsRow w.heap.size 3 1 v B.pairs.length (ints (aey B most h B.pairs.length))/\Below w.heap.size w w':=by
 obtain⟨ta,la,pa,tc,lc,pc⟩:=V;have hnp:=hG.fine.pairs;have HC:Hid (∀k,k<B.pairs.length-> ∃b o sb so n sc lo up,pa=some ⟨b,o,none⟩/\(∀u,Below w.heap.size w u->u.cell? ⟨b,o+k*3+2,none⟩=some (.slice (some ⟨sb,so,none⟩) n sc)/\u.cell? ⟨sb,so+h*2,none⟩=some (.int .i64 lo)/\u.cell? ⟨sb,so+h*2+1,none⟩=some (.int .i64 up))/\h<n/\B.call most h k=if most then up else lo):=lH fun k hk=>by
  have hx:B.pairs[k]? =some B.pairs[k]:=lG hk;obtain⟨b,o,sa,sc,e,_,_,h3,h4,_⟩:=hs.pairs k _ hx;have hc:=(hG.fine.calls k _ hx).1;have hlt:h<B.pairs[k].calls.length:=by omega
  have hy:B.pairs[k].calls[h]? =some B.pairs[k].calls[h]:=lG hlt;obtain⟨sb,so,e2,g0,g1⟩:=h4 h _ hy;subst e2;refine⟨b,o,sb,so,_,sc,_,_,e,fun u hu=>⟨cell_below hu h3 (nR _),cell_below hu g0 (nR _),cell_below hu g1 (nR _)⟩,hlt, ?_⟩;unfold Bk.call;rw[hx];simp only[Option.bind_some,hy]
 clear hs hG hh;obtain⟨i0,hi,hz0,hz1,hz2⟩:=info_parts info3;go_enter Tryd.func60,Tryd.ntmps60
 go_wp2_with fail
 generalize hWd:w.alloc (.cells #[.int .i64 B.hours,.slice ta B.towns.length tc,.slice la B.links.length lc,.slice pa B.pairs.length pc] 26)=W;have HBW:Hid (Below w.heap.size w W):=lH (by subst hWd;exact(bR _ _).alloc (nR _) _);have HW3:Hid (W.cell? ⟨w.heap.size,3,none⟩=some (.slice pa B.pairs.length pc)):=lH (by subst hWd;go_simp);clear hWd
 go_loopw [7,8] (fun v i wr=> ∃k:Nat,k<=B.pairs.length/\i= .int .i64 (k:Int)/\wr.ownsRow W.heap.size 3 1 v k (ints (aey B most h k))/\Below W.heap.size W wr) (fun _ i _=>B.pairs.length-(intOf i).toNat)
 case atStart=>exact⟨0,Nat.zero_le _,rfl,World.ownsRow_nil _ _ _ _,bR _ _⟩
 case round=>
  obtain⟨k,hk,rfl,hown,hb⟩:=hrel;have Hown:=lH hown;have Hb:=lH hb;clear hown hb;have k3:=cell_below Hb.out HW3.out (nR _);by_cases hlt:k<B.pairs.length
  ·obtain⟨b,o,sb,so,n,sc,lo,up,e,hcs,hn,hval⟩:=HC.out k hlt;subst e;obtain⟨c0,c1,c2⟩:=hcs wr (HBW.out.trans (Hb.out.mono HBW.out.size));have z0:=wBk _ _ c0;have z1:=wBk _ _ c1;have hhn:(h:Int)<(n:Int):=by omega
   have Hval:=lH hval;have Hsn:=lH (aeY B most h k);clear hcs hval;generalize B.call most h k=y at *;have hkp:(k:Int)<(B.pairs.length:Int):=by omega
   have HB9:=lH (Hb.out.alloc Hb.out.size (.cells #[.int .i64 lo,.int .i64 up] 53));have HO9:=lH (Hown.out.alloc (.cells #[.int .i64 lo,.int .i64 up] 53));have HN:Hid (∀(z:Int) (j:Nat) (u:Value),([.int .i64 z]:List Value)[j]? =some u->((wr.alloc (.cells #[.int .i64 lo,.int .i64 up] 53)).alloc (.cells #[.int .i64 z] 3)).cell? ((⟨wr.heap.size+1,0,none⟩:Addr).add j)=some u):=lH fun z j u hj=>by
    match j,hj with
    | 0,hj=>cases hj;simp only[Addr.add];go_simp
   have H1c:Hid (∀(z:Int),∀u∈([.int .i64 z]:List Value),u.oneCell'=true):=lH fun z=>by simp[Value.oneCell']
   have Hb63:Hid (k+1<=maxLen):=lH (by unfold maxLen;omega);have Hbb:Hid ((k+1)*8<=140737488355328):=lH (by omega);have Hsz:Hid (W.heap.size<=wr.heap.size+1+1):=lH (by have:=Hb.out.size;omega)
   cases most
   all_goals
    simp only[Bool.false_eq_true,if_true,if_false] at Hval;have hy:=Hval.out;subst hy
    go_wp2_with (at_builtin;refine wpList_append_own _ rfl _ _ 27 rfl W.heap.size 3 i0 (.int .i64 0) 1 8 Tryd.underlying27 hi hz0 hz1 hz2 rfl (by decide) _ _ _ rfl (HO9.out.alloc _) ⟨wr.heap.size+1,0,none⟩ 1 1 [.int .i64 y] rfl rfl (HN.out y) (H1c.out y) Hb63.out Hbb.out (by simp only[World.size_alloc];exact Hsz.out) ?_)
    intro v' w4 hown' hgrow _;have R:=Bo HB9.out HO9.out hown' hgrow;rw[<-Hsn.out] at R;have HR:=lH R;clear hown' hgrow R;go_wp2;go_roundw
    case rel=>exact⟨k+1,by omega,by go_num,HR.out.1,HR.out.2⟩
    case measure=>simp[intOf];omega
  ·have hke:k=B.pairs.length:=by omega
   rw[hke] at Hown;have Hbk:=lH (HBW.out.trans (Hb.out.mono HBW.out.size));clear hke;go_wp2;go_ret;exact⟨_,rfl,Hown.out.base HBW.out.size,Hbk.out⟩
theorem c73 (h:Int) (t:Option Addr) (n tc:Nat) (la:Option Addr) (ln lc:Nat) (p:Option Addr) (pn pc:Nat) (w:World) (h1:1<=n) (hn:n<=1000000):
  Calls tP 73 #[.agg #[.int .i64 h,.slice t n tc,.slice la ln lc,.slice p pn pc]] w fun e w'=>e= .returned (.int .i64 ((n-1 :Nat):Int))/\Below w.heap.size w w':=by
 have hw:IntKind.wrap .i64 ((n:Int)-1)=((n-1 :Nat):Int):=(IntWalk.i64_in _ (by omega)).trans (by omega);go_enter Tryd.func73,Tryd.ntmps73;go_wp2;go_ret;exact⟨rfl,(bR _ _).alloc (nR _) _⟩
theorem alP {xs:List Int} {k:Nat} {x:Int} (hx:xs[k]? =some x):dN (xs.take (k+1))=(dN (xs.take k)|| !btw x 0 20):=by
 unfold dN;rw[List.take_add_one,hx,List.any_append];simp
theorem alQ {xs:List Int} {k:Nat} (h:dN (xs.take k)=true):dN xs=true:=by
 unfold dN at *;rw[List.any_eq_true] at *;obtain⟨x,hx,h2⟩:=h;exact⟨x,List.mem_of_mem_take hx,h2⟩
theorem c58 (V:BkV) (B:Bk) (xs:List Int) (xa:Option Addr) (xc:Nat) (w:World) (hs:aB w V B) (hz: ∀t∈B.towns,t.size<=1000000) (hx:SlI w xa xs) (hxl:xs.length<=1000000):
  Calls tP 58 #[V.val B,.slice xa xs.length xc] w fun e w'=>e= .returned (.int .i64 (aH B xs true))/\Below w.heap.size w w':=by
 obtain⟨ta,la,pa,tc,lc,pc⟩:=V;have hb0:Below w.heap.size w (w.alloc (.cells #[.int .i64 B.hours,.slice ta B.towns.length tc,.slice la B.links.length lc,.slice pa B.pairs.length pc] 26)):=(bR _ _).alloc (nR _) _;have HC:=lH (c20 ⟨ta,la,pa,tc,lc,pc⟩ B _ (hs.below hb0 (nR _)) hz);have HB0:=lH hb0;have HX:=lH hx;have HL:=lH hs.nl;clear hs hb0 hz hx;simp only[BkV.val];by_cases h0:B.alarm=0
 ·rw[h0] at HC;by_cases h1:xs.length=B.links.length
  ·have HR:Hid (aH B xs true=if dN xs then 1 else 0):=lH (by unfold aH;rw[if_pos h0,if_pos h1];rfl);generalize aH B xs true=R at *;clear h0;go_enter Tryd.func58,Tryd.ntmps58
   go_wp2_with fail
   refine HC.out.mono ?_;rintro e w1 ⟨rfl,hb1⟩;have HB1:=lH (HB0.out.trans (hb1.mono (by simp)));have k2:w1.cell? ⟨w.heap.size,2,none⟩=some (.slice la xs.length lc):=by rw[(ak hb1).1 _ _ (by simp),h1];go_simp
   clear hb1 h1 HC HB0
   go_wp2_with fail
   go_loopw [6] (fun i wr=> ∃k:Nat,k<=xs.length/\i= .int .i64 (k:Int)/\dN (xs.take k)=false/\w1=wr) (fun i _=>xs.length-(intOf i).toNat)
   case atStart=>exact⟨0,Nat.zero_le _,rfl,rfl,rfl⟩
   case round=>
    obtain⟨k,hk,rfl,hfk,rfl⟩:=hrel;have Hfk:=lH hfk;clear hfk;by_cases hlt:k<xs.length
    ·have hx:xs[k]? =some xs[k]:=lG hlt;obtain⟨b,o,rfl,g00⟩:=HX.out k _ hx;have g0:=cell_below HB1.out g00 (nR _);have Hbt:=lH (alP hx);clear hx g00;generalize xs[k]=x at *
     cases hno:btw x 0 20 with
     |false=>
      have HF:Hid (R=1):=lH (by rw[HR.out,alQ (k:=k+1) (by rw[Hbt.out,hno];simp),if_pos rfl])
      go_wp2_with (go_at_call 37;refine(gU _ _ _ _).mono ?_;rintro e w2 ⟨rfl,rfl⟩)
      go_ret;exact⟨by rw[HF.out]<;>rfl,HB1.out⟩
     |true=>
      have HF:Hid (dN (xs.take (k+1))=false):=lH (by rw[Hbt.out,Hfk.out,hno];rfl)
      go_wp2_with (go_at_call 37;refine(gU _ _ _ _).mono ?_;rintro e w2 ⟨rfl,rfl⟩)
      exact⟨⟨k+1,by omega,rfl,HF.out,trivial⟩,by simp[intOf];omega⟩
    ·have hke:xs.length<=k:=by omega
     have HF:Hid (R=0):=lH (by have h:=Hfk.out;rw[List.take_of_length_le hke] at h;rw[HR.out,h];rfl);go_wp2;go_ret;exact⟨by rw[HF.out]<;>rfl,HB1.out⟩
  ·have HR:Hid (aH B xs true=2):=lH (by unfold aH;rw[if_pos h0,if_neg h1]);generalize aH B xs true=R at *;clear h0;have hne: ¬(xs.length:Int)=(B.links.length:Int):=by omega
   go_enter Tryd.func58,Tryd.ntmps58
   go_wp2_with fail
   refine HC.out.mono ?_;rintro e w1 ⟨rfl,hb1⟩;have HB1:=lH (HB0.out.trans (hb1.mono (by simp)));have k2:w1.cell? ⟨w.heap.size,2,none⟩=some (.slice la B.links.length lc):=by rw[(ak hb1).1 _ _ (by simp)];go_simp
   clear hb1 HC HB0;go_wp2;go_ret;exact⟨by rw[HR.out]<;>rfl,HB1.out⟩
 ·have HR:Hid (aH B xs true=B.alarm):=lH (by unfold aH;rw[if_neg h0]);generalize aH B xs true=R at *;generalize B.alarm=al at *;go_enter Tryd.func58,Tryd.ntmps58
  go_wp2_with fail
  refine HC.out.mono ?_;rintro e w1 ⟨rfl,hb1⟩;have HB1:=lH (HB0.out.trans (hb1.mono (by simp)));clear hb1 HC HB0;go_wp2;go_ret;exact⟨by rw[HR.out]<;>rfl,HB1.out⟩
theorem c94 (V:BkV) (B:Bk) (hB:B.Fine) (a b:Int) (w:World) (hat:bT w V B):
  Calls tP 94 #[V.val B,.int .i64 a,.int .i64 b] w fun e w'=>e= .returned (.int .i64 (B.direct a b))/\Below w.heap.size w w':=by
 obtain⟨ta,la,pa,tc,lc,pc⟩:=V;have hl:=hB.links;have ht:=hB.towns;unfold Bk.spokes at hl;have Hd0:Hid (B.direct a b=B.directFrom a b (B.links.length-(B.towns.length-1)) (B.towns.length-1)):=lH rfl;have h1:1<=B.towns.length:=by omega
 have h2:B.towns.length<=1000000:=by omega
 go_enter Tryd.func94,Tryd.ntmps94
 go_wp2_with (first | (go_at_call 73;refine(c73 _ _ _ _ _ _ _ _ _ _ _ h1 h2).mono ?_;rintro e w1 ⟨rfl,hb1⟩))
 have hx2:w1.cell? ⟨w.heap.size,2,none⟩=some (.slice la B.links.length lc):=by rw[(ak hb1).1 _ _ (by simp)];go_simp
 have hbl:Below w.heap.size w w1:=((bR _ _).alloc (nR _) _).trans (hb1.mono (by simp));clear hb1;have HBL:=lH hbl
 go_loopw [7] (fun i wr=> ∃k:Nat,k<=B.links.length/\i= .int .i64 (k:Int)/\B.direct a b=B.directFrom a b (B.links.length-k) k/\w1=wr) (fun i _=>B.links.length-(intOf i).toNat)
 case atStart=>exact⟨B.towns.length-1,hl.1,rfl,Hd0.out,rfl⟩
 case round=>
  obtain⟨k,hk2,rfl,hdk,rfl⟩:=hrel;have Hdk:=lH hdk;clear hdk;by_cases hlt:k<B.links.length
  ·have hL:B.links[k]? =some B.links[k]:=lG hlt;obtain⟨lb,lo,sa,sc,g1,g2,g3,_,_⟩:=(hat.below hbl (nR _)).links _ _ hL;simp only at g1;subst g1;generalize hp:B.links[k].one=p at g2;generalize hr:B.links[k].two=r at g3;have HH:Hid (a=p->b=r->B.directFrom a b (B.links.length-k) k=k):=lH fun e1 e2=>OT hL hlt (e1.trans hp.symm) (e2.trans hr.symm);have HM:Hid (¬(a=p/\b=r)->B.directFrom a b (B.links.length-k) k=B.directFrom a b (B.links.length-(k+1)) (k+1)):=lH fun h=>OU hL hlt fun x=>h ⟨x.1.trans hp,x.2.trans hr⟩;clear hp hr hL;by_cases e1:p=a
   ·subst e1;by_cases e2:r=b
    ·subst e2;go_wp2;go_ret;exact⟨by rw[Hdk.out,HH.out (by simp) (by simp)];rfl,HBL.out⟩
    ·go_wp2;exact⟨⟨k+1,by omega,by go_num,by rw[Hdk.out];exact HM.out (fun x=>e2 x.2.symm),trivial⟩,by simp[intOf];omega⟩
   ·go_wp2;exact⟨⟨k+1,by omega,by go_num,by rw[Hdk.out];exact HM.out (fun x=>e1 x.1.symm),trivial⟩,by simp[intOf];omega⟩
  ·have hke:k=B.links.length:=by omega
   go_wp2;go_ret;refine⟨?_,HBL.out⟩;rw[Hdk.out,hke,Nat.sub_self];rfl
section
variable {P:Program} {ops:Array Oper} {Q:Exit->Act->World->Prop} {z:Nat}
def Ywo (P:Program) (ops:Array Oper) (o:Oper) (v:Value) (a:Act) (w:World):Prop:=
 (Region.wanted o (yielded ops a.tmps)=true/\(execOp a.eval o).run P w= .ok (.value v) w)\/(Region.wanted o (yielded ops a.tmps)=false/\v=undef)
theorem Ywo.wpOp {i:Nat} {o:Oper} {v:Value} {a:Act} {w:World} (hi:ops[i]? =some o) (hy:Ywo P ops o v a w) {K:Act->World->Prop} (h:K (a.put o.dst v) w):wpOp P ops Q i K a w:=by
 unfold Go.wpOp;simp only[hi]
 rcases hy with ⟨hw,hv⟩ |⟨hw,rfl⟩
 ·simp only[hw,if_true,Oper.wp,hv,Oper.upon];exact .inl h
 ·simp only[hw,Bool.false_eq_true,if_false];exact h
def LaB (P:Program) (ops:Array Oper) (Q:Exit->Act->World->Prop) (z:Nat):Nat->Array Bool->Act->World->Prop
 | 0,listed,a,w=>Region.ready .any ops listed= [z]/\Region.ready .any ops (listed.setIfInBounds z true)= []/\wpOp P ops Q z (fun a' w'=>Q .normal a' w') a w
 |n+1,listed,a,w=>Region.ready .any ops listed≠ []/\ ∀i∈Region.ready .any ops listed,∃o v,ops[i]? =some o/\Ywo P ops o v a w/\LaB P ops Q z n (listed.setIfInBounds i true) (a.put o.dst v) w
theorem ahf: ∀(n:Nat) (listed:Array Bool) (a:Act) (w:World),LaB P ops Q z n listed a w->wpAny P .any ops Q (n+1) listed a w
  | 0,_,_,_,h=>⟨fun e=>(by rw[h.1] at e;cases e),fun i hi=>by
      rw[h.1,List.mem_singleton] at hi;subst hi;exact wpOp_mono (fun a' w' hq=>⟨h.2.1,hq⟩) h.2.2⟩
  |n+1,_,_,_,h=>⟨fun e=>absurd e h.1,fun i hi=>by
      obtain⟨o,v,ho,hy,h2⟩:=h.2 i hi;exact hy.wpOp ho (ahf n _ _ _ h2)⟩
def ahc (ops:Array Oper) (z:Nat):Bool:=(List.range ops.size).all fun j=>j==z||((ops[z]?).map fun o=>o.after.any fun e=>Region.binds .any e&&e.on==j).getD false
theorem ahm {i:Nat} {oi:Oper} {v:Value} (hi:ops[i]? =some oi) (hsel: ∀(j:Nat) (o:Oper) cs b,ops[j]? =some o->o.op≠ .select cs b) (hz:ahc ops z=true) (hiz:i≠z):
    ∀(n:Nat) (listed:Array Bool) (a:Act) (w:World),
      (∀j oj,ops[j]? =some oj->j≠i->listed.getD j true=false->(∀e∈oj.after,Region.binds .any e=true->e.on≠i)->oi.apart ops oj=true)->
      i∈Region.ready .any ops listed->Ywo P ops oi v a w->LaB P ops Q z n (listed.setIfInBounds i true) (a.put oi.dst v) w->LaB P ops Q z (n+1) listed a w:=by
  intro n
  induction n with
  |zero=>
    intro listed a w _ hr hy H;refine⟨fun h=>(by rw[h] at hr;cases hr),fun j hj=> ?_⟩;by_cases hji:j=i
    · subst hji;exact⟨oi,v,hi,hy,H⟩
    · exfalso
      have h1:=ready_mono hj hji;rw[H.1,List.mem_singleton] at h1;subst h1;obtain⟨_,ozz,hoz,hall⟩:=mem_ready.1 hj;have hil:i<ops.size:=(Array.getElem?_eq_some_iff.1 hi).1;unfold ahc at hz;rw[List.all_eq_true] at hz;have h2:=hz i (List.mem_range.2 hil);rw[hoz] at h2;simp only[Option.map_some,Option.getD_some,Bool.or_eq_true,beq_iff_eq] at h2
      rcases h2 with h2 |h2
      · exact hiz h2
      · rw[Array.any_eq_true] at h2
        obtain⟨k,hk,h3⟩:=h2;simp only[Bool.and_eq_true,beq_iff_eq] at h3;have h4:=hall _ (Array.getElem_mem hk) h3.1;rw[h3.2] at h4;have h5:=(mem_ready.1 hr).1
        rcases Nat.lt_or_ge i listed.size with h' |h'
        · simp[h'] at h4 h5;rw[h5] at h4;cases h4
        · simp[Array.getElem?_eq_none h'] at h4
  |succ n ih=>
    intro listed a w hfree hr hy H;refine⟨fun h=>(by rw[h] at hr;cases hr),fun j hj=> ?_⟩;by_cases hji:j=i
    · subst hji;exact⟨oi,v,hi,hy,H⟩
    · obtain⟨oj',vj,hoj',hyj,H2⟩:=H.2 j (ready_mono hj hji)
      obtain⟨hjun,oj,hoj,hall⟩:=mem_ready.1 hj;have e1:oj'=oj:=Option.some.inj (hoj'.symm.trans hoj);rw[e1] at hyj H2;have hnot: ∀e∈oj.after,Region.binds .any e=true->e.on≠i:=fun e he hb heq=>by
        have h1:=hall e he hb;have h0:=(mem_ready.1 hr).1;rw[heq] at h1
        rcases Nat.lt_or_ge i listed.size with h' |h'
        · simp[h'] at h0 h1;rw[h0] at h1;cases h1
        · simp[Array.getElem?_eq_none h'] at h1
      obtain⟨h1,h2,h3⟩:=Oper.apart_spec (hfree j oj hoj hji hjun hnot);have hyj':Ywo P ops oj vj a w:=by
        unfold Ywo at hyj ⊢;rw[wanted_put oj a oi.dst v h1,execOp_put oj (fun cs b=>hsel j oj cs b hoj) a oi.dst v h1] at hyj;exact hyj
      have hy':Ywo P ops oi v (a.put oj.dst vj) w:=by
        unfold Ywo at hy ⊢;rw[wanted_put oi a oj.dst vj h3,execOp_put oi (fun cs b=>hsel i oi cs b hi) a oj.dst vj h3];exact hy
      have hfree': ∀k ok,ops[k]? =some ok->k≠i->(listed.setIfInBounds j true).getD k true=false->
          (∀e∈ok.after,Region.binds .any e=true->e.on≠i)->oi.apart ops ok=true:=fun k ok hk hki hun hno=>by
        refine hfree k ok hk hki ?_ hno;by_cases hjk:j=k
        · subst hjk;exact hjun
        · rw[getD_set_ne true hjk] at hun;exact hun
      refine⟨oj,vj,hoj,hyj',ih (listed.setIfInBounds j true) (a.put oj.dst vj) w hfree' (ready_mono hr (Ne.symm hji)) hy' ?_⟩;rw[Array.setIfInBounds_comm _ _ hji,<-Act.put_comm a v vj h2];exact H2
theorem ag5 (i:Nat) {o:Oper} (v:Value) {n:Nat} {listed:Array Bool} {a:Act} {w:World} (h:LaB P ops Q z n (listed.setIfInBounds i true) (a.put o.dst v) w) (ho:ops[i]? =some o:=by rfl) (hw:Region.wanted o (yielded ops a.tmps)=true:=by rfl) (hr:(execOp a.eval o).run P w= .ok (.value v) w:=by go_simp)
  (hs:Region.noSelect ops=true:=by kernel_rfl) (hf:Region.free .any ops listed i=true:=by kernel_rfl) (hc:(Region.ready .any ops listed).contains i=true:=by kernel_rfl) (hz:ahc ops z=true:=by kernel_rfl) (hiz:i≠z:=by decide):LaB P ops Q z (n+1) listed a w:=
 ahm ho (Region.noSelect_spec hs) hz hiz n listed a w (Region.free_spec ho hf) (by simpa using hc) (.inl ⟨hw,hr⟩) h
theorem ahn {id:Nat} {a:Act} {w:World} (z n:Nat) (hm:P.follows .mixedOrders=true) (h:LaB P ops Q z n (Array.replicate (n+1) false) a {w with drawn:=w.drawn+1}) (hn:ops.size=n+1:=by rfl):(Code.region id ops true).wp P Q a w:=
 wp_region_any hm (by rw[hn];exact ahf n _ _ _ h)
end
structure LoR (w:World) (la pa:Option Addr) (B:Bk) (lc pc:Nat) (hours towns:Value) (f:Nat->Int) (wr:World):Prop where
 below:Below w.heap.size w wr
 size:w.heap.size+2<=wr.heap.size
 b0:wr.cell? ⟨w.heap.size,0,none⟩=some hours
 b1:wr.cell? ⟨w.heap.size,1,none⟩=some towns
 b2:wr.cell? ⟨w.heap.size,2,none⟩=some (.slice la B.links.length lc)
 b3:wr.cell? ⟨w.heap.size,3,none⟩=some (.slice pa B.pairs.length pc)
 out: ∀j,j<B.links.length->wr.cell? ⟨w.heap.size+1,j,none⟩=some (.int .i64 (f j))/\wr.frozen? ⟨w.heap.size+1,j,none⟩=false
theorem LoR.step {w:World} {la pa:Option Addr} {B:Bk} {lc pc:Nat} {hours towns:Value} {f:Nat->Int} {wr w2:World} (h:LoR w la pa B lc pc hours towns f wr) (hb:Below wr.heap.size wr w2):LoR w la pa B lc pc hours towns f w2:=by
 have hs:=h.size;obtain⟨hc,hf⟩:=ak hb;refine⟨h.below.trans (hb.mono (by omega)),Nat.le_trans h.size hb.size, ?_, ?_, ?_, ?_,fun j hj=> ?_⟩
 ·rw[hc _ _ (by omega)];exact h.b0
 ·rw[hc _ _ (by omega)];exact h.b1
 ·rw[hc _ _ (by omega)];exact h.b2
 ·rw[hc _ _ (by omega)];exact h.b3
 ·rw[hc _ _ (by omega),hf _ _ (by omega)];exact h.out j hj
theorem LoR.set {w:World} {la pa:Option Addr} {B:Bk} {lc pc:Nat} {hours towns:Value} {f:Nat->Int} {wr:World} (h:LoR w la pa B lc pc hours towns f wr) (i:Nat) (v:Int):LoR w la pa B lc pc hours towns (fup f i v) (wr.setCell ⟨w.heap.size+1,i,none⟩ (.int .i64 v)):=by
 have hs:=h.size;have hne: ∀b o,b≠w.heap.size+1->(wr.setCell ⟨w.heap.size+1,i,none⟩ (.int .i64 v)).cell? ⟨b,o,none⟩=wr.cell? ⟨b,o,none⟩:=fun b o hb=>wO _ _ _ _ (by intro e;cases e;exact hb rfl);refine⟨h.below.trans ((bR _ _).setCell (by simp) _),by simpa using h.size, ?_, ?_, ?_, ?_,fun j hj=> ?_⟩
 ·rw[hne _ _ (by omega)];exact h.b0
 ·rw[hne _ _ (by omega)];exact h.b1
 ·rw[hne _ _ (by omega)];exact h.b2
 ·rw[hne _ _ (by omega)];exact h.b3
 ·rw[World.frozen?_setCell];refine⟨?_,(h.out j hj).2⟩;by_cases e:j=i
  ·subst e;rw[BZ];exact World.cell?_setCell_same _ _ _ (h.out j hj).1
  ·rw[dQ f v e,wO _ _ _ _ (by intro e';cases e';exact e rfl)];exact(h.out j hj).1
section
variable {f:FuncId} {ops:Array Oper} {kk:List Item} {R:Value->World->Prop}
theorem acD {w u x:World} (h:Kept w.heap.size w u) (k:Kept u.heap.size u x):Kept w.heap.size w x:=h.trans (k.mono h.size)
def YG (ops:Array Oper) (o:Oper) (v:Value) (a:Act) (w:World):Prop:=
 (Region.wanted o (yielded ops a.tmps)=true/\ ∀u,Kept w.heap.size w u->(execOp a.eval o).run tP u= .ok (.value v) u)\/(Region.wanted o (yielded ops a.tmps)=false/\v=undef)
theorem YG.kept {o:Oper} {v:Value} {a:Act} {w w':World} (h:YG ops o v a w) (hk:Kept w.heap.size w w'):YG ops o v a w':=by
 rcases h with ⟨h1,h2⟩ |h
 ·exact .inl ⟨h1,fun u hu=>h2 u (acD hk hu)⟩
 ·exact .inr h
def acv (K:Value->World->Prop) (w:World) (m:Sem Next):Prop:=
 (∃v,(∀τ,m.run tP (w.tp τ 0 noJ)= .ok (.value v) (w.tp τ 0 noJ))/\K v w)\/
 (∃S:Value->World->Prop,(∀τ,∃v w',m.run tP (w.tp τ 0 noJ)= .ok (.value v) w'/\S v w')/\ ∀v w',S v w'->Kept w.heap.size w w'/\K v w')\/
 (∃g args R1,(∀u,m.run tP u= .ok (.enter g args) u)/\iK tP g args w R1/\ ∀v w',R1 v w'->Kept w.heap.size w w'/\K v w')
theorem acv.mono {w:World} {m:Sem Next} {K K':Value->World->Prop} (h: ∀v w',Kept w.heap.size w w'->K v w'->K' v w') (hh:acv K w m):acv K' w m:=by
 rcases hh with ⟨v,h1,h2⟩ |⟨S,h1,h2⟩ |⟨g,args,R1,h1,h2,h3⟩
 ·exact .inl ⟨v,h1,h v w (Kept.refl _ _) h2⟩
 ·exact .inr (.inl ⟨S,h1,fun v w' hv=>⟨(h2 v w' hv).1,h _ _ (h2 v w' hv).1 (h2 v w' hv).2⟩⟩)
 ·exact .inr (.inr ⟨g,args,R1,h1,h2,fun v w' hv=>⟨(h3 v w' hv).1,h _ _ (h3 v w' hv).1 (h3 v w' hv).2⟩⟩)
def OpG (ops:Array Oper) (i:Nat) (K:Act->World->Prop) (a:Act) (w:World):Prop:=
 match ops[i]? with
 |none=>False
 |some o=>if Region.wanted o (yielded ops a.tmps) then acv (fun v w'=>K (a.put o.dst v) w') w (execOp a.eval o) else K (a.put o.dst undef) w
theorem OpG.mono {i:Nat} {a:Act} {w:World} {K K':Act->World->Prop} (h: ∀a w,K a w->K' a w) (hh:OpG ops i K a w):OpG ops i K' a w:=by
 unfold OpG at *
 split
 ·simp_all
 ·rename_i o ho;simp only[ho] at hh
  split
  ·rename_i hw;simp only[hw,if_true] at hh;exact hh.mono fun _ _ _=>h _ _
  ·rename_i hw;simp only[hw] at hh;exact h _ _ hh
theorem acE {i:Nat} {rest:List Nat} {a:Act} {w:World} (h:OpG ops i (fun a' w'=>GL tP f (.inRegion ops rest::kk) R a' w') a w):GL tP f (.inRegion ops (i::rest)::kk) R a w:=by
 unfold OpG at h
 split at h
 ·exact h.elim
 ·rename_i o ho
  split at h
  ·rename_i hw
   rcases h with ⟨v,h1,h2⟩ |⟨S,h1,h2⟩ |⟨g,args,R1,h1,h2,h3⟩
   ·refine LQ good (fun v' u=>v'=v/\ ∃τ,u=w.tp τ 0 noJ) ho hw (fun τ=>⟨v,_,h1 τ,rfl,τ,rfl⟩) fun v' u ⟨e,τ,e2⟩=> ?_;subst e e2;exact qL (τ:=w.tape) (d:=w.drawn) (by rw[dS,dh];exact h2)
   ·exact LQ good S ho hw h1 fun v w' hv=>(h2 v w' hv).2
   ·exact qM good ho hw h1 h2 fun v w' hv=>(h3 v w' hv).2
  ·rename_i hw;exact Bf good ho (by simpa using hw) h
theorem YG.opG {i:Nat} {o:Oper} {v:Value} {a:Act} {w:World} {K:Act->World->Prop} (hi:ops[i]? =some o) (hy:YG ops o v a w) (hK:K (a.put o.dst v) w):OpG ops i K a w:=by
 unfold OpG;simp only[hi]
 rcases hy with ⟨hw,hv⟩ |⟨hw,rfl⟩
 ·simp only[hw,if_true];exact .inl ⟨v,fun τ=>hv _ jD,hK⟩
 ·simp only[hw,Bool.false_eq_true,if_false];exact hK
theorem acF {j:Nat} {oi oj:Oper} {v:Value} (hj:ops[j]? =some oj) (hap:oi.apart ops oj=true) (hsi: ∀cs b,oi.op≠ .select cs b) (hsj: ∀cs b,oj.op≠ .select cs b) {K:Act->World->Prop} {a:Act} {w:World}
  (hy:YG ops oi v a w) (h:OpG ops j K (a.put oi.dst v) w):OpG ops j (fun a' w'=>YG ops oi v a' w'/\K (a'.put oi.dst v) w') a w:=by
 obtain⟨h1,h2,h3⟩:=Oper.apart_spec hap;have keep: ∀(u:Value) (w':World),Kept w.heap.size w w'->YG ops oi v (a.put oj.dst u) w':=fun u w' hk=>by
  refine YG.kept (w:=w) ?_ hk;unfold YG at hy ⊢;rw[wanted_put oi a oj.dst u h3,execOp_put oi hsi a oj.dst u h3];exact hy
 unfold OpG at *;simp only[hj] at *;rw[wanted_put oj a oi.dst v h1] at h
 split
 ·rename_i hw;simp only[hw,if_true] at h;rw[execOp_put oj hsj a oi.dst v h1] at h;refine h.mono fun u w' hk hh=>⟨keep u w' hk, ?_⟩;rw[<-Act.put_comm a v u h2];exact hh
 ·rename_i hw;simp only[hw] at h;refine⟨keep _ _ (Kept.refl _ _), ?_⟩;rw[<-Act.put_comm a v undef h2];exact h
def GA (f:FuncId) (ops:Array Oper) (kk:List Item) (R:Value->World->Prop):Nat->Array Bool->Act->World->Prop
 | 0,listed,a,w=>Region.ready .any ops listed= []/\GL tP f kk R a w
 |n+1,listed,a,w=>(Region.ready .any ops listed= []->GL tP f kk R a w)/\ ∀i∈Region.ready .any ops listed,OpG ops i (GA f ops kk R n (listed.setIfInBounds i true)) a w
theorem acw: ∀(n t:Nat) (listed:Array Bool) (a:Act) (w:World),GA f ops kk R n listed a w->GL tP f (.inRegion ops (Region.linearise.go .any ops n t listed [])::kk) R a w
 | 0,t,listed,a,w,h=>by
  simp only[Region.linearise.go,List.reverse_nil];exact lY good h.2
 |n+1,t,listed,a,w,h=>by
  obtain⟨h0,h1⟩:=h;simp only[Region.linearise.go]
  change GL tP f (.inRegion ops (match (Region.ready .any ops listed)[t % (Region.ready .any ops listed).length]? with
   |some i=>Region.linearise.go .any ops n (t / (Region.ready .any ops listed).length) (listed.setIfInBounds i true) [i]
   |none=> [].reverse)::kk) R a w
  cases hi:(Region.ready .any ops listed)[t % (Region.ready .any ops listed).length]? with
  |none=>
   have hnil:Region.ready .any ops listed= []:=by
    cases hr:Region.ready .any ops listed with
    |nil=>rfl
    |cons x xs=>
     rw[hr] at hi;have hlt:t % (x::xs).length<(x::xs).length:=Nat.mod_lt _ (by simp);simp at hi;simp at hlt;omega
   exact lY good (h0 hnil)
  |some i=>
   simp only[];rw[linearise_go_acc,List.reverse_singleton,List.singleton_append];exact acE ((h1 i (List.mem_of_getElem? hi)).mono fun a' w' x=>acw n _ _ a' w' x)
theorem acG {i:Nat} {oi:Oper} {v:Value} (hi:ops[i]? =some oi) (hsel: ∀(j:Nat) (o:Oper) cs b,ops[j]? =some o->o.op≠ .select cs b):
    ∀(n:Nat) (listed:Array Bool) (a:Act) (w:World),
      (∀j oj,ops[j]? =some oj->j≠i->listed.getD j true=false->(∀e∈oj.after,Region.binds .any e=true->e.on≠i)->oi.apart ops oj=true)->
      i∈Region.ready .any ops listed->YG ops oi v a w->GA f ops kk R n (listed.setIfInBounds i true) (a.put oi.dst v) w->GA f ops kk R (n+1) listed a w:=by
  intro n
  induction n with
  |zero=>
    intro listed a w _ hr hy H;refine⟨fun h=>(by rw[h] at hr;cases hr),fun j hj=> ?_⟩;by_cases hji:j=i
    · subst hji;exact hy.opG hi H
    · have:=ready_mono hj hji
      rw[H.1] at this
      cases this
  |succ n ih=>
    intro listed a w hfree hr hy H;refine⟨fun h=>(by rw[h] at hr;cases hr),fun j hj=> ?_⟩;by_cases hji:j=i
    · subst hji;exact hy.opG hi H
    · have h1:=H.2 j (ready_mono hj hji)
      obtain⟨hjun,oj,hoj,hall⟩:=mem_ready.1 hj;have hnot: ∀e∈oj.after,Region.binds .any e=true->e.on≠i:=fun e he hb heq=>by
        have h1:=hall e he hb;have h0:=(mem_ready.1 hr).1;rw[heq] at h1
        rcases Nat.lt_or_ge i listed.size with h' |h'
        · simp[h'] at h0 h1;rw[h0] at h1;cases h1
        · simp[Array.getElem?_eq_none h'] at h1
      have h2:=acF hoj (hfree j oj hoj hji hjun hnot) (fun cs b=>hsel i oi cs b hi) (fun cs b=>hsel j oj cs b hoj) hy h1;have hfree': ∀k ok,ops[k]? =some ok->k≠i->(listed.setIfInBounds j true).getD k true=false->
          (∀e∈ok.after,Region.binds .any e=true->e.on≠i)->oi.apart ops ok=true:=fun k ok hk hki hun hno=>by
        refine hfree k ok hk hki ?_ hno;by_cases hjk:j=k
        · subst hjk;exact hjun
        · rw[getD_set_ne true hjk] at hun;exact hun
      refine h2.mono fun a' w' h3=>ih (listed.setIfInBounds j true) a' w' hfree' (ready_mono hr (Ne.symm hji)) h3.1 ?_;rw[Array.setIfInBounds_comm _ _ hji];exact h3.2
theorem ac3 (m:Nat) {id:Nat} {a:Act} {w:World} (h:GA f ops kk R m (Array.replicate m false) a w) (hm:ops.size=m:=by rfl):GL tP f (.code (.region id ops true)::kk) R a w:=by
 subst hm;refine Eo good (fun it b u=> ∃t,it= .inRegion ops (Region.linearise .any ops t)::kk/\b=a/\ ∃τ d,u=w.tp τ d noJ) (fun τ=>⟨.inRegion ops (Region.linearise .any ops ((w.tp τ 0 noJ).tape (w.tp τ 0 noJ).drawn (.order (aN f).fn id)))::kk,a,w.tp τ 1 noJ,⟨_,rfl,rfl,τ,1,rfl⟩,fun cc=> .one ?_⟩) ?_
 ·have:=step_region_draw (P:=tP) (b:=aN f) (a:=a) (k:=kk) (cs:=cc) (w:=w.tp τ 0 noJ) (ops:=ops) (id:=id);rw[this];simp only[Region.schedule,show tP.follows .mixedOrders=true by kernel_rfl,Bool.true_or,if_true];rfl
 ·rintro it b u ⟨t,rfl,rfl,τ,d,rfl⟩;exact qL (τ:=w.tape) (d:=w.drawn) (by rw[dS,dh];exact acw _ _ _ _ _ h)
end
section
variable {f:FuncId} {N n d s t:Nat} {a:Act} {w:World} {l:List (Nat×Value)} {ops:Array Oper} {listed:Array Bool} {i:Nat} {kk:List Item} {R:Value->World->Prop} {o:Oper}
theorem acy {v:Value} (ho:ops[i]? =some o) (hsel:Region.noSelect ops=true) (hf:Region.free .any ops listed i=true) (hc:(Region.ready .any ops listed).contains i=true) (hy:YG ops o v a w) (h:GA f ops kk R n (listed.setIfInBounds i true) (a.put o.dst v) w):GA f ops kk R (n+1) listed a w:=
 acG ho (Region.noSelect_spec hsel) n listed a w (Region.free_spec ho hf) (by simpa using hc) hy h
theorem acr {v:Value} (hS:Sl a N l) (ho:ops[i]? =some o) (hw:Region.wanted o (yielded ops a.tmps)=true) (hdst:o.dst=some d) (hd:d<N) (hn:(l.map (·.1)).contains d=false) (hsel:Region.noSelect ops=true) (hf:Region.free .any ops listed i=true) (hc:(Region.ready .any ops listed).contains i=true)
  (hr: ∀u,Kept w.heap.size w u->(execOp a.eval o).run tP u= .ok (.value v) u) (h: ∀a',Sl a' N ((d,v)::l)->GA f ops kk R n (listed.setIfInBounds i true) a' w):GA f ops kk R (n+1) listed a w:=
 acy ho hsel hf hc (.inl ⟨hw,hr⟩) (h _ (by have:=hS.put hd hn (v:=v);rw[<-hdst] at this;exact this))
theorem acH (hr:Region.ready .any ops listed= [i]) (h:OpG ops i (GA f ops kk R n (listed.setIfInBounds i true)) a w):GA f ops kk R (n+1) listed a w:=
 ⟨fun h0=>(by rw[hr] at h0;cases h0),fun j hj=>by rw[hr,List.mem_singleton] at hj;subst hj;exact h⟩
theorem ac4 (i:Nat) {g:FuncId} {args:Array Value} {R1:Value->World->Prop} (hcall:iK tP g args w fun v w'=>R1 v w'/\Kept w.heap.size w w') (hS:Sl a N l) (k: ∀a' v w',R1 v w'/\Kept w.heap.size w w'->Sl a' N ((d,v)::l)->GA f ops kk R n (listed.setIfInBounds i true) a' w')
  (ho:ops[i]? =some o:=by rfl) (hw:Region.wanted o (yielded ops a.tmps)=true:=by rfl) (hdst:o.dst=some d:=by rfl) (hd:d<N:=by decide) (hn:(l.map (·.1)).contains d=false:=by rfl) (hc:Region.ready .any ops listed= [i]:=by kernel_rfl)
  (hr: ∀u,(execOp a.eval o).run tP u= .ok (.enter g args) u:=by intro u;have h:=(‹Sl _ _ _›).2.2;simp only[SlA] at h;simp[go_sem,h]):GA f ops kk R (n+1) listed a w:=by
 refine acH hc ?_;unfold OpG;simp only[ho,hw,if_true];refine .inr (.inr ⟨g,args,_,hr,hcall,fun v w' hv=>⟨hv.2,k _ v w' hv ?_⟩⟩);have:=hS.put hd hn (v:=v);rw[<-hdst] at this;exact this
theorem ac5 (h:GL tP f kk R a w) (hr:Region.ready .any ops listed= []:=by kernel_rfl):GA f ops kk R 0 listed a w:=⟨hr,h⟩
theorem ac7 (i:Nat) (v:Value) (hS:Sl a N l) (h: ∀a',Sl a' N ((d,v)::l)->GA f ops kk R n (listed.setIfInBounds i true) a' w)
  (ho:ops[i]? =some o:=by rfl) (hw:Region.wanted o (yielded ops a.tmps)=true:=by rfl) (hdst:o.dst=some d:=by rfl) (hd:d<N:=by decide) (hn:(l.map (·.1)).contains d=false:=by rfl) (hsel:Region.noSelect ops=true:=by kernel_rfl) (hf:Region.free .any ops listed i=true:=by kernel_rfl) (hc:(Region.ready .any ops listed).contains i=true:=by kernel_rfl)
  (hr: ∀u,(execOp a.eval o).run tP u= .ok (.value v) u:=by intro u;have h:=(‹Sl _ _ _›).2.2;simp only[SlA] at h;simp[go_sem,h]):
  GA f ops kk R (n+1) listed a w:=acr hS ho hw hdst hd hn hsel hf hc (fun u _=>hr u) h
theorem ac8 (i:Nat) {b1:Nat} {V:BkV} {B:Bk} (hS:Sl a N l) (hB:dL w b1 V B) (h: ∀a',Sl a' N ((d,V.val B)::l)->GA f ops kk R n (listed.setIfInBounds i true) a' w)
  (ho:ops[i]? =some o:=by rfl) (hw:Region.wanted o (yielded ops a.tmps)=true:=by rfl) (hdst:o.dst=some d:=by rfl) (hd:d<N:=by decide) (hn:(l.map (·.1)).contains d=false:=by rfl) (hsel:Region.noSelect ops=true:=by kernel_rfl) (hf:Region.free .any ops listed i=true:=by kernel_rfl) (hc:(Region.ready .any ops listed).contains i=true:=by kernel_rfl) (hp:o.op= .load 26 (.tmp s):=by rfl) (hs:a.tmps[s]?.getD undef= .pointer (some ⟨b1,0,none⟩):=by have h:=(‹Sl _ _ _›).2.2;simp only[SlA] at h;simp only[h]):GA f ops kk R (n+1) listed a w:=acr hS ho hw hdst hd hn hsel hf hc (fun u hk=>by
   have⟨c0,c1,c2,c3,_,_,_⟩:=hB.kept hk;obtain⟨dd,oo,ty,po,af,gu⟩:=o;simp only at hp;subst hp;go_simp) h
end
theorem FN (B:Bk) (a b:Int): ∀n i,0<=B.directFrom a b n i->B.one (B.directFrom a b n i).toNat=a/\B.two (B.directFrom a b n i).toNat=b
 | 0,i,h=>by unfold Bk.directFrom at h;omega
 |n+1,i,h=>by
  unfold Bk.directFrom at h ⊢;by_cases e:B.one i=a/\B.two i=b
  ·rw[if_pos e,Int.toNat_natCast];exact e
  ·rw[if_neg e] at h ⊢; exact FN B a b n (i+1) h
theorem FP {B:Bk} {a b:Int} (h:0<=B.direct a b):B.one (B.direct a b).toNat=a/\B.two (B.direct a b).toNat=b:=FN B a b _ _ h
theorem FQ {nt hours:Int}: ∀(l:List Pr) (S:List (Int×Int)),fP nt hours S l=0->(∀x∈l,bZ S x.one x.two=false)/\ ∀(i j:Nat) (x y:Pr),i<j->l[i]? =some x->l[j]? =some y-> ¬(x.one=y.one/\x.two=y.two)
 | [],S,_=>⟨fun x hx=>(by cases hx),fun i j x y _ h=>(by cases h)⟩
 |p::l,S,h=>by
  unfold fP at h
  split at h
  ·cases h
  split at h
  ·cases h
  split at h
  ·cases h
  rename_i hm
  split at h
  ·split at h
   ·cases h
   obtain⟨h1,h2⟩:=FQ l _ h;have hs: ∀x∈l,bZ S x.one x.two=false/\ ¬(p.one=x.one/\p.two=x.two):=fun x hx=>by
    have:=h1 x hx;rw[Ce,Bool.or_eq_false_iff] at this;refine⟨this.2,fun⟨e1,e2⟩=> ?_⟩;have h3:=this.1;rw[e1,e2] at h3;simp at h3
   refine⟨fun x hx=> ?_,fun i j x y hij hx hy=> ?_⟩
   ·rcases List.mem_cons.1 hx with e |e
    ·subst e;simpa using hm
    ·exact(hs x e).1
   ·cases j with
    |zero=>omega
    |succ j=>
     rw[List.getElem?_cons_succ] at hy
     cases i with
     |zero=>cases hx;exact(hs y (List.mem_of_getElem? hy)).2
     |succ i=>exact h2 i j x y (by omega) (by simpa using hx) hy
  ·cases h
theorem Ol {B:Bk} (h:B.alarm=0) {i j:Nat} (hij:i<j) (hj:j<B.pairs.length): ¬(B.pone i=B.pone j/\B.ptwo i=B.ptwo j):=by
 obtain⟨_,_,_,h3⟩:=GX h;unfold dR at h3
 split at h3
 ·cases h3
 have hx:B.pairs[i]? =some B.pairs[i]:=lG (by omega);have hy:B.pairs[j]? =some B.pairs[j]:=lG hj;have:=(FQ _ _ h3).2 i j _ _ hij hx hy;unfold Bk.pone Bk.ptwo;rw[hx,hy];exact this
theorem Om (B:Bk) (T:Nat->Int) (n a b:Int) (out:Nat->Int) {k:Nat} (h1:k≠(a-1).toNat) (h2:k≠(b-1).toNat):B.go T n a b out k=if a≠0/\B.direct a b=k then min n (T k) else out k:=by
 unfold Bk.go;by_cases ha:a=0
 ·rw[if_pos ha,if_neg (by omega)];exact dQ _ _ h2
 ·rw[if_neg ha];rw[dQ _ _ h2,dQ _ _ h1];by_cases hk:0<=B.direct a b
  ·simp only[if_pos hk];by_cases e:B.direct a b=k
   ·rw[if_pos ⟨ha,e⟩,e,Int.toNat_natCast];simp
   ·rw[if_neg (fun h=>e h.2)];exact dQ _ _ (by omega)
  ·simp only[if_neg hk];rw[if_neg (by omega)]
def adr (B:Bk) (T:Nat->Int) (a b:Int):Int:=if 0<=B.direct a b then T (B.direct a b).toNat else 0
def incr (B:Bk) (T:Nat->Int) (n a b:Int) (k:Nat):Int:=
 if a=0 then (if (k:Int)=b-1 then n else 0)
 else (if B.direct a b=k then min n (adr B T a b) else 0)+if (k:Int)=a-1\/(k:Int)=b-1 then n-min n (adr B T a b) else 0
def adu (B:Bk) (T:Nat->Int) (c:Nat->Int) (k:Nat):Nat->Int
 | 0=>0
 |i+1=>adu B T c k i+incr B T (c i) (B.pone i) (B.ptwo i) k
theorem adV {B:Bk} (hB:B.Fine) (T c:Nat->Int) {k:Nat} (hk:B.spokes<=k): ∀n,n<=B.pairs.length->(∀i,i<n->B.pone i≠0->B.direct (B.pone i) (B.ptwo i)≠k)->B.loadTo T c n k=0
 | 0,_,_=>rfl
 |n+1,hn,h=>by
  have he:=hB.ends n (by omega);have ht:B.spokes=B.towns.length-1:=rfl;unfold Bk.loadTo;rw[Om B T _ _ _ _ (by omega) (by omega),if_neg (fun⟨h1,h2⟩=>h n (by omega) h1 h2)];exact adV hB T c hk n (by omega) fun i hi=>h i (by omega)
theorem aec {B:Bk} (hB:B.Fine) (T:Nat->Int) {n a b:Int} (hn:0<=n) (out:Nat->Int) (k:Nat) (hab:0<=a/\a<b/\b<B.towns.length) (h0:a≠0->B.direct a b=k->out k=0):B.go T n a b out k=out k+incr B T n a b k:=by
 have hd:=pF B hB a b;have ht:B.spokes=B.towns.length-1:=rfl;unfold Bk.go incr adr;by_cases ha:a=0
 ·rw[if_pos ha,if_pos ha];by_cases e:k=(b-1).toNat
  ·rw[<-e,BZ,if_pos (by omega)]
  ·rw[dQ _ _ e,if_neg (by omega)];omega
 ·rw[if_neg ha,if_neg ha];by_cases hk:0<=B.direct a b
  ·simp only[if_pos hk];generalize min n (T (B.direct a b).toNat)=m at *;by_cases e1:k=(b-1).toNat
   ·rw[<-e1,BZ,dQ _ _ (by omega),dQ _ _ (by omega),if_neg (by omega),if_pos (by omega)];omega
   ·rw[dQ _ _ e1];by_cases e2:k=(a-1).toNat
    ·rw[<-e2,BZ,dQ _ _ (by omega),if_neg (by omega),if_pos (by omega)];omega
    ·rw[dQ _ _ e2];by_cases e3:k=(B.direct a b).toNat
     ·rw[<-e3,BZ,h0 ha (by omega),if_pos (by omega),if_neg (by omega)];omega
     ·rw[dQ _ _ e3,if_neg (by omega),if_neg (by omega)];omega
  ·simp only[if_neg hk];rw[Int.min_eq_right hn];by_cases e1:k=(b-1).toNat
   ·rw[<-e1,BZ,dQ _ _ (by omega),if_pos (show (k:Int)=a-1\/(k:Int)=b-1 by omega)]
    split<;>omega
   ·rw[dQ _ _ e1];by_cases e2:k=(a-1).toNat
    ·rw[<-e2,BZ,if_pos (show (k:Int)=a-1\/(k:Int)=b-1 by omega)]
     split<;>omega
    ·rw[dQ _ _ e2,if_neg (show ¬((k:Int)=a-1\/(k:Int)=b-1) by omega)]
     split<;>omega
theorem adW {B:Bk} (hB:B.Fine) (hA:B.alarm=0) (T c:Nat->Int) (hc: ∀i,i<B.pairs.length->0<=c i) (k:Nat): ∀n,n<=B.pairs.length->adu B T c k n=B.loadTo T c n k
 | 0,_=>rfl
 |n+1,hn=>by
  have he:=hB.ends n (by omega);have ht:B.spokes=B.towns.length-1:=rfl;unfold adu Bk.loadTo;rw[adW hB hA T c hc k n (by omega),aec hB T (hc n (by omega)) _ k ⟨he.1,he.2.1,he.2.2⟩ fun ha hd=> ?_];have hdb:=pF B hB (B.pone n) (B.ptwo n);refine adV hB T c (by omega) n (by omega) fun i hi h1 h2=> ?_;have d1:=FP (B:=B) (a:=B.pone i) (b:=B.ptwo i) (by omega);have d2:=FP (B:=B) (a:=B.pone n) (b:=B.ptwo n) (by omega);rw[h2] at d1;rw[hd] at d2;exact Ol hA hi (by omega) ⟨d1.1.symm.trans d2.1,d1.2.symm.trans d2.2⟩
theorem aeZ {B:Bk} {T:Nat->Int} (hT: ∀k,0<=T k) {n m:Int} (h:n<=m) (a b:Int) (k:Nat):incr B T n a b k<=incr B T m a b k:=by
 have:0<=adr B T a b:=by unfold adr;split;exact hT _;omega
 unfold incr
 split<;>split<;>(try split)<;>omega
theorem aeF {B:Bk} {T c d:Nat->Int} (hT: ∀k,0<=T k) (h: ∀i,i<B.pairs.length->c i<=d i) (k:Nat): ∀n,n<=B.pairs.length->adu B T c k n<=adu B T d k n
 | 0,_=>Int.le_refl _
 |n+1,hn=>by
  have h1:=aeF hT h k n (by omega);have h2:=aeZ (B:=B) hT (h n (by omega)) (B.pone n) (B.ptwo n) k;unfold adu;omega
theorem aeE {B:Bk} (hA:B.alarm=0) (T:Nat->Int) (most:Bool) (h k:Nat):B.inn T most h k=adu B T (B.call most h) k B.pairs.length:=
 (adW (gY hA).fine hA T _ (fun i _=>(Gj B (gY hA).fine most h i).1) k _ (nR _)).symm
theorem aeK {B:Bk} (hB:B.Fine) (h i:Nat):B.call false h i<=B.call true h i:=by
 unfold Bk.call
 cases hp:B.pairs[i]? with
 |none=>simp
 |some p=>
  simp only[Option.bind_some]
  cases hc:p.calls[h]? with
  |none=>simp
  |some x=>
   have:=(hB.calls i p hp).2 h x hc;simp;omega
theorem ae0 {B:Bk} (hA:B.alarm=0) {T:Nat->Int} (hT: ∀k,0<=T k) (h k:Nat):B.inn T false h k<=B.inn T true h k:=by
 rw[aeE hA,aeE hA];exact aeF hT (fun i _=>aeK (gY hA).fine h i) k _ (nR _)
theorem ae1 {B:Bk} (hA:B.alarm=0) {T:Nat->Int} (hT: ∀k,0<=T k) (h:Nat) (hl:B.lackIn T true h<0):B.lackIn T false h<0:=by
 rw[vC] at hl ⊢;intro j hj;have h1:=hl j hj;have h2:=ae0 hA hT h j;omega
theorem ae2 {B:Bk} (hA:B.alarm=0) {T:Nat->Int} (hT: ∀k,0<=T k):aQ B T B.hours.toNat 0 1=1↔ ∀h,h<B.hours.toNat->B.lackIn T true h<0:=by
 rw[Og];exact⟨fun h k hk=>(h.2 k (Nat.zero_le _) (by omega)).2,fun h=>⟨rfl,fun k _ hk=>⟨ae1 hA hT k (h k (by omega)),h k (by omega)⟩⟩⟩
theorem ae4 (B:Bk) (most:Bool) (h:Nat) {i:Nat} (hi:i<B.pairs.length):trk (aey B most h B.pairs.length) i=B.call most h i:=by
 unfold trk aey;rw[lD,List.getElem?_map,List.getElem?_range hi];rfl
def carries (B:Bk) (T c:Nat->Int):Bool:=decide (B.lack (B.load T c) T<0)
theorem aeH {B:Bk} {T c:Nat->Int}:carries B T c=true↔ ∀j,j<B.spokes->B.load T c j<=T j:=by
 unfold carries Bk.lack;rw[decide_eq_true_iff,Oe];exact⟨fun hh j hj=>hh j (Nat.zero_le _) (by omega),fun hh j _ hj=>hh j (by omega)⟩
theorem aeU {w:World} {base n:Nat} {v:Value} {xs:List Int} (hn:xs.length=n) (h:w.ownsRow base 3 1 v n (ints xs)): ∃sa cap,v= .slice sa n cap/\SlI w sa xs:=by
 subst hn;by_cases h1:1<=xs.length
 ·obtain⟨b,cap,e,_,hO,_⟩:=BM h h1;exact⟨_,cap,e,hO.sl⟩
 ·obtain⟨_,⟨e,_⟩ |⟨g,cap,cur,e,_⟩⟩:=h
  ·exact⟨none,0,by rw[e,show xs.length=0 by omega],fun i x hx=>by rw[List.getElem?_eq_none (by omega)] at hx;cases hx⟩
  ·exact⟨_,cap,e,fun i x hx=>by rw[List.getElem?_eq_none (by omega)] at hx;cases hx⟩
theorem afb {xs:List Int} {k:Nat} (h:k<xs.length):xs[k]=trk xs k:=by
 unfold trk;rw[lD,lG h];rfl
section
variable {u:World} {b1:Nat} {V:BkV} {B:Bk} {xs cs:List Int} {xa ca:Option Addr} {xc cc:Nat}
end
section
variable {f:FuncId} {N n d s t:Nat} {a:Act} {w:World} {l:List (Nat×Value)} {ops:Array Oper} {listed:Array Bool} {i:Nat} {rest:List Nat} {kk:List Item} {R:Value->World->Prop} {o:Oper}
end
end Go.Proofs.YtaikibfkggglgaaDoor
