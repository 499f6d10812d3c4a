/- A part of the proof of a law; no conditions of its own. -/
import Derived.Test.YtaikibfkggglgaaGreatDoorW26
set_option maxRecDepth 100000
open Go renaming undef→ud
open Go.Proofs.Tryz renaming prog→tP
set_option maxHeartbeats 4000000
namespace Go.Proofs.YtaikibfkggglgaaGreatDoor
open Go.RowKit Go.Rent Go.Tp Go.Conc
theorem acA {X:World->Prop} (hX: ∀w w',X w->Kept w.heap.size w w'->X w') {w:World} {τ:Nat->Question->Nat} {d:Nat} (h:X (w.tp τ d noJ)):X w:=by
 have:=hX _ _ h (jD (τ:=w.tape) (d:=w.drawn));rwa [dS,dh] at this
theorem acs {g:FuncId} {args:Array Value} {w:World} {X:Value->World->Prop} (hX: ∀v w w',X v w->Kept w.heap.size w w'->X v w') (h: ∀τ,Calls tP g args (w.tp τ 0 noJ) fun e w'=> ∃v,e= .returned v/\X v w'/\Below (w.tp τ 0 noJ).heap.size (w.tp τ 0 noJ) w'):
  iK tP g args w fun v w'=>X v w'/\Kept w.heap.size w w':=
 Ei good (R:=fun v w'=>X v w'/\Kept w.heap.size w w') (fun v _ _ _ ⟨a,b⟩=>⟨acA (X:=X v) (hX v) a,fC.1 b⟩) fun τ=>(h τ).mono fun _ _ ⟨v,e1,x,hb⟩=>⟨v,e1,x,rJ (Kept.refl _ _) hb⟩
section
variable {u:World} {b1:Nat} {V:BkV} {B:Bk} {xs ys:List Int} {xa ya:Option Addr} {xc yc:Nat}
theorem acB (hr:aH B xs true=0) (hl:xs.length=B.links.length):oM B xs= .tuple #[.int .i64 (fZ B (trk xs) B.links.length),.int .i64 0]:=by
 unfold oM;rw[if_pos hr,hl]
theorem acC {n:Nat} (hB:dL u b1 V B) (hx:SlI u xa xs) (hxl:xs.length=n) (hL:n<=1000000):iK tP 12 #[V.val B,.slice xa n xc] u fun v w'=>v=oM B xs/\Kept u.heap.size u w':=by
 subst hxl;exact acs (X:=fun v _=>v=oM B xs) (fun _ _ _ h _=>h) fun τ=>(c40 V B xs xa xc _ (hB.kept jD).book (hB.kept jD).vars (hx.kept jD) hL).mono fun _ _ ⟨e1,hb⟩=>⟨_,e1,rfl,hb⟩
theorem acI (hB:dL u b1 V B) (hx:SlI u xa xs) (hl:xs.length=B.links.length) (hL:B.links.length<=1000000) (hr:aH B xs true=0):iK tP 12 #[V.val B,.slice xa B.links.length xc] u fun v w'=>v= .tuple #[.int .i64 (fZ B (trk xs) B.links.length),.int .i64 0]/\Kept u.heap.size u w':=
 (acC hB hx hl hL).mono fun v w' ⟨e,k⟩=>⟨by rw[e,acB hr hl],k⟩
theorem acK (hB:dL u b1 V B) (ha:B.alarm=0):iK tP 14 #[V.val B] u fun v w'=>(∃fa fc,v= .tuple #[.slice (some ⟨fa,0,none⟩) B.links.length fc,.int .i64 (aC B aT).2,.int .i64 0]/\SlI w' (some ⟨fa,0,none⟩) (aC B aT).1/\(aC B aT).1.length=B.links.length/\u.heap.size<=fa)/\Kept u.heap.size u w':=
 acs (X:=fun v w'=> ∃fa fc,v= .tuple #[.slice (some ⟨fa,0,none⟩) B.links.length fc,.int .i64 (aC B aT).2,.int .i64 0]/\SlI w' (some ⟨fa,0,none⟩) (aC B aT).1/\(aC B aT).1.length=B.links.length/\u.heap.size<=fa) (fun _ _ _ ⟨a,b,c,d,e⟩ k=>⟨a,b,c,d.kept k,e⟩) fun τ=>
  (c39 V B _ (hB.kept jD).book (hB.kept jD).vars).mono fun _ _ ⟨h1,_,hb⟩=>by
   obtain⟨fa,fc,e,hx,hl,_,hs⟩:=h1 ha;rw[hl] at e;rw[jO] at hs;exact⟨_,e,⟨fa,fc,rfl,hx,hl,hs⟩,hb⟩
theorem acL {n m:Nat} (hx:SlI u xa xs) (hy:SlI u ya ys) (hxl:xs.length=n) (hyl:ys.length=m) (hn:n<=1000000) (hm:m<=1000000):iK tP 60 #[.slice xa n xc,.slice ya m yc] u fun v w'=>v= .bool (iq xs ys)/\Kept u.heap.size u w':=by
 subst hxl hyl;exact acs (X:=fun v _=>v= .bool (iq xs ys)) (fun _ _ _ h _=>h) fun τ=>(c41 xs ys xa ya xc yc _ (hx.kept jD) (hy.kept jD) hn hm).mono fun _ _ ⟨e1,hb⟩=>⟨_,e1,rfl,hb⟩
theorem acM (n a b:Int):iK tP 46 #[.int .i64 n,.int .i64 a,.int .i64 b] u fun v w'=>v= .bool (btw n a b)/\Kept u.heap.size u w':=
 acs (X:=fun v _=>v= .bool (btw n a b)) (fun _ _ _ h _=>h) fun τ=>(c37 n a b _).mono fun _ _ ⟨e1,hb⟩=>⟨_,e1,rfl,by rw[hb];exact Below.refl _ _⟩
theorem acN (hB:dL u b1 V B) (hx:SlI u xa xs) (hl:xs.length=B.links.length) (hL:B.links.length<=1000000) (hr:aH B xs true=0):iK tP 32 #[V.val B,.slice xa B.links.length xc] u fun v w'=>v= .tuple #[.int .i64 (aQ B (trk xs) B.hours.toNat 0 1),.int .i64 0]/\Kept u.heap.size u w':=by
 have h:=qO u V B xs xa xc hB.book hB.rows hB.vars hx (by omega);rw[hl] at h;exact h.mono fun v w' ⟨e,k⟩=>⟨by rw[e,FK hr],k⟩
end
section
variable {f:FuncId} {N d s t:Nat} {a:Act} {w:World} {l:List (Nat×Value)} {ops:Array Oper} {i:Nat} {rest:List Nat} {kk:List Item} {R:Value->World->Prop} {o:Oper}
def acu (v:Value):Option Bool:=match v with
 | .bool b=>some b
 |_=>none
theorem acO {dd j:Nat} {b:Bool} {v:Value} (hS:Sl a N l) (h: ∀a',Sl a' N ((d,ud)::l)->GL tP f (.inRegion ops rest::kk) R a' w) (hv:a.tmps[dd]?.getD ud=v)
  (ho:ops[i]? =some o:=by rfl) (hg:o.guard=some (j,b):=by rfl) (hj:(ops[j]?.bind fun x=>x.dst)=some dd:=by rfl) (hdst:o.dst=some d:=by rfl) (hd:d<N:=by decide) (hlt:dd<N:=by decide) (hn:(l.map (·.1)).contains d=false:=by rfl) (hbc:(acu v==some b)=false:=by rfl):
  GL tP f (.inRegion ops (i::rest)::kk) R a w:=by
 have hw:Region.wanted o (yielded ops a.tmps)=false:=by
  unfold Region.wanted yielded;rw[hg];simp only[hj,Option.bind_some];rw[<-hS.1] at hlt;rw[Array.getElem?_eq_getElem hlt] at hv ⊢;simp only[Option.getD_some] at hv;rw[hv]
  cases v with
  |bool c=>simpa[acu] using hbc
  |_=>rfl
 refine Bf good ho hw ?_;have:=h _ (hS.put hd hn (v:=ud));rw[<-hdst] at this;exact this
theorem acP {b L c k:Nat} (hS:Sl a N l) (hk:k<L) (h: ∀a',Sl a' N ((d,.pointer (some ⟨b,k,none⟩))::l)->GL tP f (.inRegion ops rest::kk) R a' w)
  (ho:ops[i]? =some o:=by rfl) (hw:Region.wanted o (yielded ops a.tmps)=true:=by rfl) (hdst:o.dst=some d:=by rfl) (hd:d<N:=by decide) (hn:(l.map (·.1)).contains d=false:=by rfl) (hp:o.op= .indexAddr 33 (.tmp s) (.tmp t):=by rfl) (hs:a.tmps[s]?.getD ud= .slice (some ⟨b,0,none⟩) L c:=by have h:=(‹Sl _ _ _›).2.2;simp only[SlA] at h;simp only[h]) (ht:a.tmps[t]?.getD ud= .int .i64 (k:Int):=by have h:=(‹Sl _ _ _›).2.2;simp only[SlA] at h;simp only[h]):GL tP f (.inRegion ops (i::rest)::kk) R a w:=vg hS ho hw hdst hd hn (fun τ=>by
   have hki:(k:Int)<(L:Int):=by omega
   obtain⟨dd,oo,ty,po,af,gu⟩:=o;simp only at hp;subst hp;go_simp) h
theorem acQ {b k:Nat} {x:Int} (hS:Sl a N l) (hc:w.cell? ⟨b,k,none⟩=some (.int .i64 x)) (h: ∀a',Sl a' N ((d,.int .i64 x)::l)->GL tP f (.inRegion ops rest::kk) R a' w)
  (ho:ops[i]? =some o:=by rfl) (hw:Region.wanted o (yielded ops a.tmps)=true:=by rfl) (hdst:o.dst=some d:=by rfl) (hd:d<N:=by decide) (hn:(l.map (·.1)).contains d=false:=by rfl) (hp:o.op= .load 3 (.tmp s):=by rfl) (hs:a.tmps[s]?.getD ud= .pointer (some ⟨b,k,none⟩):=by have h:=(‹Sl _ _ _›).2.2;simp only[SlA] at h;simp only[h]):GL tP f (.inRegion ops (i::rest)::kk) R a w:=vg hS ho hw hdst hd hn (fun τ=>by
   have hc:(w.tp τ 0 noJ).cell? ⟨b,k,none⟩=some (.int .i64 x):=by rw[bV];exact hc
   obtain⟨dd,oo,ty,po,af,gu⟩:=o;simp only at hp;subst hp;go_simp) h
theorem acR {b1:Nat} {V:BkV} {B:Bk} (hS:Sl a N l) (hB:dL w b1 V B) (h: ∀a',Sl a' N ((d,.pointer (some ⟨b1,0,none⟩))::l)->GL tP f (.inRegion ops rest::kk) R a' w)
  (ho:ops[i]? =some o:=by rfl) (hw:Region.wanted o (yielded ops a.tmps)=true:=by rfl) (hdst:o.dst=some d:=by rfl) (hd:d<N:=by decide) (hn:(l.map (·.1)).contains d=false:=by rfl) (hp:o.op= .fieldAddr 26 (.tmp s) 0:=by rfl) (hs:a.tmps[s]?.getD ud= .pointer (some ⟨b1,0,none⟩):=by have h:=(‹Sl _ _ _›).2.2;simp only[SlA] at h;simp only[h]):GL tP f (.inRegion ops (i::rest)::kk) R a w:=vg hS ho hw hdst hd hn (fun τ=>by
   have c0:=(hB.kept (u':=w.tp τ 0 noJ) jD).c0;obtain⟨dd,oo,ty,po,af,gu⟩:=o;simp only at hp;subst hp;go_simp) h
theorem acS {b1:Nat} {V:BkV} {B:Bk} (hS:Sl a N l) (hB:dL w b1 V B) (h: ∀a',Sl a' N ((d,.pointer (some ⟨b1,1,none⟩))::l)->GL tP f (.inRegion ops rest::kk) R a' w)
  (ho:ops[i]? =some o:=by rfl) (hw:Region.wanted o (yielded ops a.tmps)=true:=by rfl) (hdst:o.dst=some d:=by rfl) (hd:d<N:=by decide) (hn:(l.map (·.1)).contains d=false:=by rfl) (hp:o.op= .fieldAddr 26 (.tmp s) 1:=by rfl) (hs:a.tmps[s]?.getD ud= .pointer (some ⟨b1,0,none⟩):=by have h:=(‹Sl _ _ _›).2.2;simp only[SlA] at h;simp only[h]):GL tP f (.inRegion ops (i::rest)::kk) R a w:=vg hS ho hw hdst hd hn (fun τ=>by
   have c0:=(hB.kept (u':=w.tp τ 0 noJ) jD).c0;obtain⟨dd,oo,ty,po,af,gu⟩:=o;simp only at hp;subst hp;go_simp) h
theorem acT {b1:Nat} {V:BkV} {B:Bk} (hS:Sl a N l) (hB:dL w b1 V B) (h: ∀a',Sl a' N ((d,.pointer (some ⟨b1,2,none⟩))::l)->GL tP f (.inRegion ops rest::kk) R a' w)
  (ho:ops[i]? =some o:=by rfl) (hw:Region.wanted o (yielded ops a.tmps)=true:=by rfl) (hdst:o.dst=some d:=by rfl) (hd:d<N:=by decide) (hn:(l.map (·.1)).contains d=false:=by rfl) (hp:o.op= .fieldAddr 26 (.tmp s) 2:=by rfl) (hs:a.tmps[s]?.getD ud= .pointer (some ⟨b1,0,none⟩):=by have h:=(‹Sl _ _ _›).2.2;simp only[SlA] at h;simp only[h]):GL tP f (.inRegion ops (i::rest)::kk) R a w:=vg hS ho hw hdst hd hn (fun τ=>by
   have c0:=(hB.kept (u':=w.tp τ 0 noJ) jD).c0;obtain⟨dd,oo,ty,po,af,gu⟩:=o;simp only at hp;subst hp;go_simp) h
theorem acU {b1:Nat} {V:BkV} {B:Bk} (hS:Sl a N l) (hB:dL w b1 V B) (h: ∀a',Sl a' N ((d,.pointer (some ⟨b1,3,none⟩))::l)->GL tP f (.inRegion ops rest::kk) R a' w)
  (ho:ops[i]? =some o:=by rfl) (hw:Region.wanted o (yielded ops a.tmps)=true:=by rfl) (hdst:o.dst=some d:=by rfl) (hd:d<N:=by decide) (hn:(l.map (·.1)).contains d=false:=by rfl) (hp:o.op= .fieldAddr 26 (.tmp s) 3:=by rfl) (hs:a.tmps[s]?.getD ud= .pointer (some ⟨b1,0,none⟩):=by have h:=(‹Sl _ _ _›).2.2;simp only[SlA] at h;simp only[h]):GL tP f (.inRegion ops (i::rest)::kk) R a w:=vg hS ho hw hdst hd hn (fun τ=>by
   have c0:=(hB.kept (u':=w.tp τ 0 noJ) jD).c0;obtain⟨dd,oo,ty,po,af,gu⟩:=o;simp only at hp;subst hp;go_simp) h
theorem acV {b1:Nat} {V:BkV} {B:Bk} (hS:Sl a N l) (hB:dL w b1 V B) (h: ∀a',Sl a' N ((d,.int .i64 B.hours)::l)->GL tP f (.inRegion ops rest::kk) R a' w)
  (ho:ops[i]? =some o:=by rfl) (hw:Region.wanted o (yielded ops a.tmps)=true:=by rfl) (hdst:o.dst=some d:=by rfl) (hd:d<N:=by decide) (hn:(l.map (·.1)).contains d=false:=by rfl) (hp:o.op= .load 3 (.tmp s):=by rfl) (hs:a.tmps[s]?.getD ud= .pointer (some ⟨b1,0,none⟩):=by have h:=(‹Sl _ _ _›).2.2;simp only[SlA] at h;simp only[h]):GL tP f (.inRegion ops (i::rest)::kk) R a w:=vg hS ho hw hdst hd hn (fun τ=>by
   have c0:=(hB.kept (u':=w.tp τ 0 noJ) jD).c0;obtain⟨dd,oo,ty,po,af,gu⟩:=o;simp only at hp;subst hp;go_simp) h
theorem acW {b1:Nat} {V:BkV} {B:Bk} (hS:Sl a N l) (hB:dL w b1 V B) (h: ∀a',Sl a' N ((d,.slice V.ta B.towns.length V.tc)::l)->GL tP f (.inRegion ops rest::kk) R a' w)
  (ho:ops[i]? =some o:=by rfl) (hw:Region.wanted o (yielded ops a.tmps)=true:=by rfl) (hdst:o.dst=some d:=by rfl) (hd:d<N:=by decide) (hn:(l.map (·.1)).contains d=false:=by rfl) (hp:o.op= .load 22 (.tmp s):=by rfl) (hs:a.tmps[s]?.getD ud= .pointer (some ⟨b1,1,none⟩):=by have h:=(‹Sl _ _ _›).2.2;simp only[SlA] at h;simp only[h]):GL tP f (.inRegion ops (i::rest)::kk) R a w:=vg hS ho hw hdst hd hn (fun τ=>by
   have c0:=(hB.kept (u':=w.tp τ 0 noJ) jD).c1;obtain⟨dd,oo,ty,po,af,gu⟩:=o;simp only at hp;subst hp;go_simp) h
theorem acX {b1:Nat} {V:BkV} {B:Bk} (hS:Sl a N l) (hB:dL w b1 V B) (h: ∀a',Sl a' N ((d,.slice V.la B.links.length V.lc)::l)->GL tP f (.inRegion ops rest::kk) R a' w)
  (ho:ops[i]? =some o:=by rfl) (hw:Region.wanted o (yielded ops a.tmps)=true:=by rfl) (hdst:o.dst=some d:=by rfl) (hd:d<N:=by decide) (hn:(l.map (·.1)).contains d=false:=by rfl) (hp:o.op= .load 23 (.tmp s):=by rfl) (hs:a.tmps[s]?.getD ud= .pointer (some ⟨b1,2,none⟩):=by have h:=(‹Sl _ _ _›).2.2;simp only[SlA] at h;simp only[h]):GL tP f (.inRegion ops (i::rest)::kk) R a w:=vg hS ho hw hdst hd hn (fun τ=>by
   have c0:=(hB.kept (u':=w.tp τ 0 noJ) jD).c2;obtain⟨dd,oo,ty,po,af,gu⟩:=o;simp only at hp;subst hp;go_simp) h
theorem acY {b1:Nat} {V:BkV} {B:Bk} (hS:Sl a N l) (hB:dL w b1 V B) (h: ∀a',Sl a' N ((d,.slice V.pa B.pairs.length V.pc)::l)->GL tP f (.inRegion ops rest::kk) R a' w)
  (ho:ops[i]? =some o:=by rfl) (hw:Region.wanted o (yielded ops a.tmps)=true:=by rfl) (hdst:o.dst=some d:=by rfl) (hd:d<N:=by decide) (hn:(l.map (·.1)).contains d=false:=by rfl) (hp:o.op= .load 24 (.tmp s):=by rfl) (hs:a.tmps[s]?.getD ud= .pointer (some ⟨b1,3,none⟩):=by have h:=(‹Sl _ _ _›).2.2;simp only[SlA] at h;simp only[h]):GL tP f (.inRegion ops (i::rest)::kk) R a w:=vg hS ho hw hdst hd hn (fun τ=>by
   have c0:=(hB.kept (u':=w.tp τ 0 noJ) jD).c3;obtain⟨dd,oo,ty,po,af,gu⟩:=o;simp only at hp;subst hp;go_simp) h
theorem acZ {q:Int} (hS:Sl a N l) (hq:0<=q/\q<=255) (h: ∀a',Sl a' N ((d,.int .i64 q)::l)->GL tP f (.inRegion ops rest::kk) R a' w)
  (ho:ops[i]? =some o:=by rfl) (hw:Region.wanted o (yielded ops a.tmps)=true:=by rfl) (hdst:o.dst=some d:=by rfl) (hd:d<N:=by decide) (hn:(l.map (·.1)).contains d=false:=by rfl) (hp:o.op= .convert 5 3 (.tmp s):=by rfl) (hs:a.tmps[s]?.getD ud= .int .u8 q:=by have h:=(‹Sl _ _ _›).2.2;simp only[SlA] at h;simp only[h]):GL tP f (.inRegion ops (i::rest)::kk) R a w:=vg hS ho hw hdst hd hn (fun τ=>by
   have hwq:IntKind.wrap .i64 q=q:=IntWalk.i64_in _ (by omega);obtain⟨dd,oo,ty,po,af,gu⟩:=o;simp only at hp;subst hp;go_simp) h
theorem ac0 {q:Int} {n k:Nat} (hS:Sl a N l) (hq:0<=q/\q<=65535) (hn1:1<=n) (hk:(k:Int)=q % (n:Int)) (h: ∀a',Sl a' N ((d,.int .i64 (k:Int))::l)->GL tP f (.inRegion ops rest::kk) R a' w)
  (ho:ops[i]? =some o:=by rfl) (hw:Region.wanted o (yielded ops a.tmps)=true:=by rfl) (hdst:o.dst=some d:=by rfl) (hd:d<N:=by decide) (hn:(l.map (·.1)).contains d=false:=by rfl) (hp:o.op= .binOp .rem 3 (.tmp s) (.tmp t) 3:=by rfl) (hs:a.tmps[s]?.getD ud= .int .i64 q:=by have h:=(‹Sl _ _ _›).2.2;simp only[SlA] at h;simp only[h]) (ht:a.tmps[t]?.getD ud= .int .i64 (n:Int):=by have h:=(‹Sl _ _ _›).2.2;simp only[SlA] at h;simp only[h]):GL tP f (.inRegion ops (i::rest)::kk) R a w:=vg hS ho hw hdst hd hn (fun τ=>by
   have h1:((q.toNat % n:Nat):Int)=(k:Int):=by rw[Int.natCast_emod,Int.toNat_of_nonneg hq.1,hk]
   have h2:=Nat.mod_le q.toNat n;have hkn:(k:Int)<=65535:=by omega
   have hrem:Int.tmod q (n:Int)=(k:Int):=by rw[hk];exact Int.tmod_eq_emod_of_nonneg hq.1
   have hn0: ¬n=0:=by omega
   have hnz:((n:Int)==0)=false:=by rw[beq_eq_false_iff_ne];omega
   have hwk:IntKind.wrap .i64 (k:Int)=(k:Int):=IntWalk.i64_in _ (by omega);obtain⟨dd,oo,ty,po,af,gu⟩:=o;simp only at hp;subst hp;go_simp) h
theorem ac1 {k:Nat} (hS:Sl a N l) (hk:k<=1000000) (h: ∀a',Sl a' N ((d,.int .i64 ((k+1 :Nat):Int))::l)->GL tP f (.inRegion ops rest::kk) R a' w)
  (ho:ops[i]? =some o:=by rfl) (hw:Region.wanted o (yielded ops a.tmps)=true:=by rfl) (hdst:o.dst=some d:=by rfl) (hd:d<N:=by decide) (hn:(l.map (·.1)).contains d=false:=by rfl) (hp:o.op= .binOp .add 3 (.tmp s) (.const (.int .i64 1)) 3:=by rfl) (hs:a.tmps[s]?.getD ud= .int .i64 (k:Int):=by have h:=(‹Sl _ _ _›).2.2;simp only[SlA] at h;simp only[h]):GL tP f (.inRegion ops (i::rest)::kk) R a w:=vg hS ho hw hdst hd hn (fun τ=>by
   have hw1:IntKind.wrap .i64 ((k:Int)+1)=(k:Int)+1:=IntWalk.i64_in _ (by omega);have hk1:((k+1 :Nat):Int)=(k:Int)+1:=by omega
   rw[hk1];obtain⟨dd,oo,ty,po,af,gu⟩:=o;simp only at hp;subst hp;go_simp) h
theorem ac2 {x y:Code} (e:x=y) (h:GL tP f (.code y::kk) R a w):GL tP f (.code x::kk) R a w:=e▸h
end
end Go.Proofs.YtaikibfkggglgaaGreatDoor
