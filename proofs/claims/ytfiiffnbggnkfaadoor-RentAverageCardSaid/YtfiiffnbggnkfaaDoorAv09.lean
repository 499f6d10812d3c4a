/- A part of the proof of a law; no conditions of its own. -/
import Derived.Test.YtfiiffnbggnkfaaDoorAv08
open Go renaming Goroutine→gO, World→wD
set_option maxRecDepth 100000
open Array renaming getElem?_eq_some_iff→aS
open List renaming getElem?_eq_some_iff→lS
open Option.some renaming injEq→oI
set_option maxHeartbeats 4000000
namespace Go.Tp
open Go.Conc Go.ConcN
abbrev X:=Hold×gO×wD
structure Ph where
 n0:Nat
 Hn:Nat
 chA:Nat
 chB:Nat
 z0:Value
 val:Nat->Value
 isA:Nat->Bool
 u0:wD
 pos:0<n0
 ne:chA≠chB
 lowA:u0.heap.size<=chA
 lowB:u0.heap.size<=chB
section
variable (P:Program) (φ:Ph)
def Ph.chan (h:Nat):Nat:=if φ.isA h then φ.chA else φ.chB
def Ph.cases:Array CommCase:= #[rcase φ.chA φ.z0,rcase φ.chB φ.z0]
def Ph.send (h:Nat):Array CommCase:= #[scase (φ.chan h) (φ.val h) (.tuple #[])]
def AtSend (h:Nat) (_:Hold) (g:gO) (u:wD):Prop:=
 ∃g₂ q,stepG P false g u= .comm g₂ (φ.send h) true .send u #[]/\QuitsD P q 0 (Go.Conc.served g₂ undef)
def AtGo (k:Nat) (K:X->Prop) (H:Hold) (g:gO) (u:wD):Prop:=
 ∃g' child,stepG P true g u= .spawn g' child u #[]/\MV P false (AtSend P φ k) (⟨fun _=>False,fun b=>H.mine b\/H.sh b⟩,child,u)/\K (⟨fun _=>False,fun b=>H.mine b\/H.sh b⟩,g',u)
def AA (K:Nat->X->Prop) (H:Hold) (g:gO) (u:wD):Prop:=
 ∃g₂,stepG P true g u= .comm g₂ φ.cases true .select u #[]/\ ∀h,h<φ.Hn-> ∀u',Off H u u'->K h (H,g₂.finishComm P φ.cases .select (if φ.isA h then 0 else 1) (φ.val h) true,u')
variable (Fin:Hold->gO->wD->Prop)
def dU:Nat->Nat->List Nat->Hold->gO->wD->Prop
 | 0,_,_=>Fin
 |n+1,k,D=>fun H g u=>if k<φ.Hn then AtGo P φ k (MV P true (dU n (k+1) D)) H g u else AA P φ (fun h x=>h∉D->MV P true (dU n k (h::D)) x) H g u
def qx (n k:Nat) (D:List Nat) (i:Nat):Hold->gO->wD->Prop:=if i=0 then dU P φ Fin n k D else AtSend P φ (i-φ.n0)
end
def Kid (φ:Ph) (k:Nat) (D:List Nat) (c:Nat):Prop:=φ.n0<=c/\c<φ.n0+k/\(c-φ.n0)∉D
def Parked (P:Program) (φ:Ph) (i:Nat) (g:gO):Prop:= ∃g₂ q,g=parked g₂ (φ.send (i-φ.n0)) .send/\QuitsD P q 0 (Go.Conc.served g₂ undef)
structure Ext (u0 u:wD):Prop where
 size:u0.heap.size<=u.heap.size
 keep: ∀b,b<u0.heap.size->u.heap[b]? =u0.heap[b]?
 same:u.tape=u0.tape/\u.os=u0.os/\u.output=u0.output
theorem Ext.refl (u:wD):Ext u u:=⟨Nat.le_refl _,fun _ _=>rfl,rfl,rfl,rfl⟩
structure Inv (P:Program) (φ:Ph) (Fin:Hold->gO->wD->Prop) (n k:Nat) (D:List Nat) (l:List (Option X)) (gs:Array gO) (u:wD) (t:Trace) (q:Nat->Nat) (H:Nat->Hold):Prop where
 cnt:n+k+D.length=2*φ.Hn
 kle:k<=φ.Hn
 dnd:D.Nodup
 dlt: ∀h∈D,h<k
 dpos:k<φ.Hn->D= []
 len:l.length=gs.size
 size:gs.size=φ.n0+k
 priv: ∀i x,l[i]? =some (some x)->gs[i]? =some x.2.1/\x.1=H i/\Off (H i) x.2.2 u/\x.2.1.status= .running
 kidp: ∀i x,i≠0->l[i]? =some (some x)->Kid φ k D i
 rest: ∀i g,i≠0->l[i]? =some none->gs[i]? =some g->(Kid φ k D i/\Parked P φ i g)\/(¬Kid φ k D i/\QuitsD P (q i) (Deaf t i) g)
 main:l[0]? =some none-> ∃g₂ n',gs[0]? =some (parked g₂ φ.cases .select)/\n=n'+1/\k=φ.Hn/\
  (∀h,h<φ.Hn->h∉D-> ∀u',Off (H 0) u u'->MV P true (dU P φ Fin n' k (h::D)) (H 0,g₂.finishComm P φ.cases .select (if φ.isA h then 0 else 1) (φ.val h) true,u'))/\
  ∀i,Kid φ k D i-> ∃x,l[i]? =some (some x)
 tr:Tr u.heap.size t (Kid φ k D) H
 apt:Apt (Kid φ k D) H
 low: ∀i b,Ac (Kid φ k D) i->(H i).mine b\/(H i).sh b->b<u.heap.size/\b≠φ.chA/\b≠φ.chB
 base: ∀i b,Ac (Kid φ k D) i->(H i).mine b->φ.u0.heap.size<=b
 ext:Ext φ.u0 u
 above: ∀j,gs.size<=j->Deaf t j=0
 chans: ∃s s',u.heap[φ.chA]? =some (.chan 0 #[] false s s false)/\u.heap[φ.chB]? =some (.chan 0 #[] false s' s' false)
section
variable {P:Program} {φ:Ph} {Fin:Hold->gO->wD->Prop} {n k:Nat} {D:List Nat} {l:List (Option X)} {gs:Array gO} {u:wD} {t:Trace} {q:Nat->Nat} {H:Nat->Hold}
theorem Kid.ne0 {c:Nat} (h:Kid φ k D c):c≠0:=by have:=h.1;have:=φ.pos;omega
theorem Inv.lt (h:Inv P φ Fin n k D l gs u t q H) {i:Nat} {o:Option X} (hi:l[i]? =some o):i<gs.size:=by rw[<-h.len];exact(lS.1 hi).1
theorem Inv.ac (h:Inv P φ Fin n k D l gs u t q H) {i:Nat} {x:X} (hi:l[i]? =some (some x)):Ac (Kid φ k D) i:=by
 by_cases e:i=0
 ·exact .inl e
 ·exact .inr (h.kidp i x e hi)
theorem Inv.pos (h:Inv P φ Fin n k D l gs u t q H):0<gs.size:=by have:=φ.pos;have:=h.size;omega
theorem Inv.some_of_lt (h:Inv P φ Fin n k D l gs u t q H) {i:Nat} (hi:i<gs.size): ∃o,l[i]? =some o:=⟨_,List.getElem?_eq_getElem (by rw[h.len];exact hi)⟩
theorem JX {g:gO} {cs:Array CommCase} {sh:CommShape} {w:wD} (h: ∀cc∈cs,∃r cap buf s r' tm,cc.chan= .chan (some r)/\w.heap[r]? =some (.chan cap buf false s r' tm)):(parked g cs sh).again w=parked g cs sh:=by
 simp only[Goroutine.again,parked];rw[if_neg];rw[Bool.not_eq_true,Array.any_eq_false];intro i hi;obtain⟨r,cap,buf,s,r',tm,e,hc⟩:=h cs[i] (Array.getElem_mem hi);simp[e,hc]
theorem DL (hc: ∃s s',u.heap[φ.chA]? =some (.chan 0 #[] false s s false)/\u.heap[φ.chB]? =some (.chan 0 #[] false s' s' false)) (h:Nat): ∃s,u.heap[φ.chan h]? =some (.chan 0 #[] false s s false):=by
 obtain⟨s,s',h1,h2⟩:=hc;unfold Ph.chan
 split
 ·exact⟨s,h1⟩
 ·exact⟨s',h2⟩
theorem Inv.woken (h:Inv P φ Fin n k D l gs u t q H) {w:wD} (hc: ∃s s',w.heap[φ.chA]? =some (.chan 0 #[] false s s false)/\w.heap[φ.chB]? =some (.chan 0 #[] false s' s' false)) (g g':gO):gs.map (Go.Conc.woken P g g' w)=gs:=by
 have hsend: ∀(g₂:gO) (m:Nat),(Go.Conc.parked g₂ (φ.send m) .send).again w=Go.Conc.parked g₂ (φ.send m) .send:=fun g₂ m=>JX fun cc hcc=>by
  simp only[Ph.send,List.mem_toArray,List.mem_cons,List.not_mem_nil,or_false] at hcc;subst hcc;obtain⟨s,hs⟩:=DL hc m;exact⟨_,_,_,_,_,_,rfl,hs⟩
 have hsel: ∀(g₂:gO),(Go.Conc.parked g₂ φ.cases .select).again w=Go.Conc.parked g₂ φ.cases .select:=fun g₂=>JX fun cc hcc=>by
  simp only[Ph.cases,List.mem_toArray,List.mem_cons,List.not_mem_nil,or_false] at hcc;obtain⟨s,s',h1,h2⟩:=hc
  rcases hcc with rfl |rfl
  ·exact⟨_,_,_,_,_,_,rfl,h1⟩
  ·exact⟨_,_,_,_,_,_,rfl,h2⟩
 have key: ∀x:gO,x.again w=x->Go.Conc.woken P g g' w x=x:=fun x e=>by unfold Go.Conc.woken;split<;>first |exact e |rfl
 apply Array.ext_getElem?;intro i;rw[Array.getElem?_map]
 cases hi:gs[i]? with
 |none=>rfl
 |some x=>
  rw[Option.map_some]
  congr 1
  obtain⟨o,ho⟩:=h.some_of_lt ((aS.1 hi).1)
  cases o with
  |some y=>
   obtain⟨h1,_,_,h4⟩:=h.priv i y ho;rw[hi,oI] at h1;subst h1;exact woken_run h4
  |none=>
   by_cases e:i=0
   ·subst e;obtain⟨g₂,_,h1,_⟩:=h.main ho;rw[hi,oI] at h1;subst h1;exact key _ (hsel g₂)
   ·rcases h.rest i x e ho hi with ⟨_,g₂,_,rfl,_⟩ |⟨_,hq⟩
    ·exact key _ (hsend g₂ _)
    ·exact woken_quitsD hq
theorem Wn {H:Nat->Hold} {act:Nat->Prop} (hA:Apt act H) {i j:Nat} (hi:Ac act i) (hj:Ac act j) (hij:i≠j) {u u':wD} {H':Hold} (hd:Does (H i) H' u u'):Off (H j) u u':=by
 refine⟨hd.size,fun b hb hm=>hd.keep b hb fun hmi=> ?_,hd.same⟩
 rcases hm with hm |hm
 ·exact hA.mm i j b hi hj hij hmi hm
 ·exact hA.ms i j b hi hj hmi hm
theorem Wp {B:Nat} {H:Hold} {g:Nat} {fn:FuncId} {pos:String} {es:Array Event} (hes: ∀e∈es,EvO H e) (hlow: ∀b,H.mine b\/H.sh b->b<B): ∀op∈MemOp.ofEvents g fn pos es,OpO B H op:=by
  intro op hop;obtain⟨e,he,rfl⟩:=Go.Conc.mem_ofEvents hop;have:=hes e he
  cases this with
  | @read a hm=>exact⟨hlow _ hm,fun b hb _=>by
      simp only[MemAct.ofEvent,MemAct.touch?,oI] at hb;subst hb;exact hm.imp (fun x=>x) fun x=>⟨x,rfl⟩⟩
  | @write a hm=>exact⟨hlow _ (.inl hm),fun b hb _=>by
      simp only[MemAct.ofEvent,MemAct.touch?,oI] at hb;subst hb;exact .inl hm⟩
  | @obj r hm=>exact⟨hlow _ hm,fun b hb _=>by
      simp only[MemAct.ofEvent,MemAct.touch?,oI] at hb;subst hb;exact hm.imp (fun x=>x) fun x=>⟨x,rfl⟩⟩
  |noRoom x y=>exact⟨trivial,fun b hb _=>by simp[MemAct.ofEvent,MemAct.touch?] at hb⟩
theorem Wq {H:Hold} {es:Array Event} (hes: ∀e∈es,EvO H e): ∀e∈es,e.loc≠ .mark .disable/\e.loc≠ .mark .enable:=by
 intro e he;have:=hes e he
 cases this<;>exact⟨by simp,by simp⟩
theorem DN {g:Nat} {fn:FuncId} {pos:String} {es:Array Event}: ∀op∈MemOp.ofEvents g fn pos es,op.g=g:=fun op hop=>by obtain⟨e,_,rfl⟩:=Go.Conc.mem_ofEvents hop;rfl
theorem Inv.go (h:Inv P φ Fin n k D l gs u t q H) {i:Nat} {x y:X} (hi:l[i]? =some (some x)) (d:Nat) {es:Array Event} (fn:FuncId) (pos:String) (hd:Does (H i) y.1 (u.at d) y.2.2) (hes: ∀e∈es,EvO y.1 e) (hrun:y.2.1.status= .running):
  Inv P φ Fin n k D (l.set i (some y)) (gs.setIfInBounds i y.2.1) y.2.2 (t++MemOp.ofEvents i fn pos es) q (upd H i y.1):=by
 have hlt:=h.lt hi;have hac:=h.ac hi;have hall:l.length=gs.size:=h.len;have hsz:u.heap.size<=y.2.2.heap.size:=hd.size;have hmine: ∀b,y.1.mine b->(H i).mine b\/(u.heap.size<=b/\b<y.2.2.heap.size):=fun b hb=>(hd.mine b).1 hb;have hoth: ∀j,Ac (Kid φ k D) j->i≠j->Off (H j) u y.2.2:=fun j hj hij=>(Off.at (H j) u d).trans (Wn h.apt hac hj hij hd);have hA':Apt (Kid φ k D) (upd H i y.1):=by
  refine⟨fun a b c ha hb hab hm hm'=> ?_,fun a b c ha hb hm hm'=> ?_⟩
  ·by_cases e1:a=i
   ·subst e1;rw[upd_same] at hm;rw[upd_ne H _ (Ne.symm hab)] at hm'
    rcases hmine c hm with h1 |h1
    ·exact h.apt.mm a b c ha hb hab h1 hm'
    ·have:=(h.low b c hb (.inl hm')).1;omega
   ·rw[upd_ne H _ e1] at hm;by_cases e2:b=i
    ·subst e2;rw[upd_same] at hm'
     rcases hmine c hm' with h1 |h1
     ·exact h.apt.mm a b c ha hb hab hm h1
     ·have:=(h.low a c ha (.inl hm)).1;omega
    ·rw[upd_ne H _ e2] at hm';exact h.apt.mm a b c ha hb hab hm hm'
  ·have hsh:(upd H i y.1 b).sh=(H b).sh:=by
    by_cases e2:b=i
    ·subst e2;rw[upd_same,hd.sh]
    ·rw[upd_ne H _ e2]
   rw[hsh] at hm';by_cases e1:a=i
   ·subst e1;rw[upd_same] at hm
    rcases hmine c hm with h1 |h1
    ·exact h.apt.ms a b c ha hb h1 hm'
    ·have:=(h.low b c hb (.inr hm')).1;omega
   ·rw[upd_ne H _ e1] at hm;exact h.apt.ms a b c ha hb hm hm'
 have hlow': ∀j b,Ac (Kid φ k D) j->(upd H i y.1 j).mine b\/(upd H i y.1 j).sh b->b<y.2.2.heap.size/\b≠φ.chA/\b≠φ.chB:=by
  intro j b hj hb;have hold:(H j).mine b\/(H j).sh b->b<y.2.2.heap.size/\b≠φ.chA/\b≠φ.chB:=fun hb=>by
   obtain⟨h1,h2,h3⟩:=h.low j b hj hb;exact⟨Nat.lt_of_lt_of_le h1 hsz,h2,h3⟩
  by_cases e:j=i
  ·subst e;rw[upd_same,hd.sh] at hb
   rcases hb with hb |hb
   ·rcases hmine b hb with h1 |h1
    ·exact hold (.inl h1)
    ·obtain⟨s,s',c1,c2⟩:=h.chans;have l1:=(aS.1 c1).1;have l2:=(aS.1 c2).1;exact⟨h1.2,by omega,by omega⟩
   ·exact hold (.inr hb)
  ·rw[upd_ne H _ e] at hb;exact hold hb
 have hset: ∀j,j≠i->(gs.setIfInBounds i y.2.1)[j]? =gs[j]? :=fun j hj=>Array.getElem?_setIfInBounds_ne (Ne.symm hj);have hls: ∀j,j≠i->(l.set i (some y))[j]? =l[j]? :=fun j hj=>List.getElem?_set_ne (Ne.symm hj);have hli:(l.set i (some y))[i]? =some (some y):=List.getElem?_set_self (by rw[hall];exact hlt);have hdeaf: ∀j,j≠i->Deaf (t++MemOp.ofEvents i fn pos es) j=Deaf t j:=fun j hj=>Deaf_other t (g:=j) (g':=i) (Ne.symm hj) _ DN;refine⟨h.cnt,h.kle,h.dnd,h.dlt,h.dpos,by simpa using hall,by simpa using h.size,fun j z hj=> ?_,fun j z h0 hj=> ?_,fun j g h0 hj hg=> ?_,fun hj=> ?_, ?_,hA',hlow',fun j b hj hb=> ?_, ?_,fun j hj=> ?_, ?_⟩
 ·by_cases e:j=i
  ·subst e;rw[hli,oI,oI] at hj;subst hj;exact⟨by simp[hlt],by rw[upd_same],Off.refl _ _,hrun⟩
  ·rw[hls j e] at hj;obtain⟨h1,h2,h3,h4⟩:=h.priv j z hj;refine⟨by rw[hset j e];exact h1,by rw[upd_ne H _ e];exact h2, ?_,h4⟩;rw[upd_ne H _ e];exact h3.trans (hoth j (h.ac hj) (Ne.symm e))
 ·by_cases e:j=i
  ·subst e;exact h.kidp j x h0 hi
  ·rw[hls j e] at hj;exact h.kidp j z h0 hj
 ·have e:j≠i:=fun e=>by subst e;rw[hli] at hj;cases hj
  rw[hls j e] at hj;rw[hset j e] at hg;rw[hdeaf j e];exact h.rest j g h0 hj hg
 ·have e:0≠i:=fun e=>by subst e;rw[hli] at hj;cases hj
  rw[hls 0 e] at hj;obtain⟨g₂,n',h1,h2,h3,h4,h5⟩:=h.main hj;refine⟨g₂,n',by rw[hset 0 e];exact h1,h2,h3,fun m hm hD u' ho=> ?_,fun j hj=> ?_⟩
  ·rw[upd_ne H _ e] at ho ⊢;exact h4 m hm hD u' ((hoth 0 (.inl rfl) (Ne.symm e)).trans ho)
  ·by_cases e2:j=i
   ·subst e2;exact⟨y,hli⟩
   ·rw[hls j e2];exact h5 j hj
 ·refine Tr.app (h.tr.grow hsz (H':=upd H i y.1) (fun j b hb=> ?_) (fun j b hb1 hb=> ?_) (fun j b hb=> ?_) (fun j b _ hb=> ?_)) hA' hac DN (by rw[upd_same];exact Wp hes fun b hb=>(hlow' i b hac (by rw[upd_same];exact hb)).1) ?_
  ·by_cases e:j=i
   ·subst e;rw[upd_same];exact(hd.mine b).2 (.inl hb)
   ·rw[upd_ne H _ e];exact hb
  ·by_cases e:j=i
   ·subst e;rw[upd_same] at hb;exact(hmine b hb).resolve_right fun x=>by omega
   ·rw[upd_ne H _ e] at hb;exact hb
  ·by_cases e:j=i
   ·subst e;rw[upd_same,hd.sh];exact hb
   ·rw[upd_ne H _ e];exact hb
  ·by_cases e:j=i
   ·subst e;rw[upd_same,hd.sh] at hb;exact hb
   ·rw[upd_ne H _ e] at hb;exact hb
  ·rw[Deaf_own,deafBehind_still (Wq hes)];exact h.tr.hears i hac
 ·by_cases e:j=i
  ·subst e;rw[upd_same] at hb
   rcases hmine b hb with h1 |h1
   ·exact h.base j b hj h1
   ·exact Nat.le_trans h.ext.size h1.1
  ·rw[upd_ne H _ e] at hb;exact h.base j b hj hb
 ·refine⟨Nat.le_trans h.ext.size hsz,fun b hb=> ?_,hd.same.1.trans h.ext.same.1,hd.same.2.1.trans h.ext.same.2.1,hd.same.2.2.trans h.ext.same.2.2⟩;rw[hd.keep b (Nat.lt_of_lt_of_le hb h.ext.size) fun hm=>by have:=h.base i b hac hm;omega];exact h.ext.keep b hb
 ·have hj':gs.size<=j:=by simpa using hj
  rw[hdeaf j (by omega)];exact h.above j hj'
 ·obtain⟨s,s',c1,c2⟩:=h.chans;refine⟨s,s', ?_, ?_⟩
  ·rw[hd.keep φ.chA (aS.1 c1).1 fun hm=>(h.low i _ hac (.inl hm)).2.1 rfl];exact c1
  ·rw[hd.keep φ.chB (aS.1 c2).1 fun hm=>(h.low i _ hac (.inl hm)).2.2 rfl];exact c2
end
section
variable {P:Program} {φ:Ph} {Fin:Hold->gO->wD->Prop} {n k:Nat} {D:List Nat} {l:List (Option X)} {gs:Array gO} {u:wD} {t:Trace} {q:Nat->Nat} {H:Nat->Hold}
theorem Ext.at {u0 u:wD} (h:Ext u0 u) (d:Nat):Ext u0 (u.at d):=⟨h.size,h.keep,h.same⟩
theorem Inv.slip (h:Inv P φ Fin n k D l gs u t q H) {i:Nat} (h0:i≠0) (hl:l[i]? =some none) (hk: ¬Kid φ k D i) (d:Nat) {g':gO} {es:Array Event} (fn:FuncId) (pos:String) {m:Nat} (hm: ∀e∈es,e.mute=true) (hq:QuitsD P m (deafBehind (Deaf t i) es) g'):
  Inv P φ Fin n k D l (gs.setIfInBounds i g') (u.at d) (t++MemOp.ofEvents i fn pos es) (upd q i m) H:=by
 have hlt:=h.lt hl;have hset: ∀j,j≠i->(gs.setIfInBounds i g')[j]? =gs[j]? :=fun j hj=>Array.getElem?_setIfInBounds_ne (Ne.symm hj);have hdeaf: ∀j,j≠i->Deaf (t++MemOp.ofEvents i fn pos es) j=Deaf t j:=fun j hj=>Deaf_other t (g:=j) (g':=i) (Ne.symm hj) _ DN;have hni: ∀j,Ac (Kid φ k D) j->j≠i:=fun j hj e=>by subst e;exact hj.elim h0 hk
 refine⟨h.cnt,h.kle,h.dnd,h.dlt,h.dpos,by simpa using h.len,by simpa using h.size,fun j z hj=> ?_,h.kidp,fun j g hj0 hj hg=> ?_,fun hj=> ?_, ?_,h.apt,h.low,h.base,h.ext.at d,fun j hj=> ?_,h.chans⟩
 ·have e:j≠i:=fun e=>by subst e;rw[hl] at hj;cases hj
  obtain⟨h1,h2,h3,h4⟩:=h.priv j z hj;exact⟨by rw[hset j e];exact h1,h2,h3.trans (Off.at _ _ _),h4⟩
 ·by_cases e:j=i
  ·subst e;rw[Array.getElem?_setIfInBounds_self_of_lt hlt,oI] at hg;subst hg;exact .inr ⟨hk,by rw[upd_same,Deaf_own];exact hq⟩
  ·rw[hset j e] at hg;rw[hdeaf j e,upd_ne q _ e];exact h.rest j g hj0 hj hg
 ·obtain⟨g₂,n',h1,h2,h3,h4,h5⟩:=h.main hj;exact⟨g₂,n',by rw[hset 0 (Ne.symm h0)];exact h1,h2,h3,fun mm hmm hD u' ho=>h4 mm hmm hD u' ((Off.at _ _ d).trans ho),h5⟩
 ·refine h.tr.mute (fun op hop=>by obtain⟨e,he,rfl⟩:=Go.Conc.mem_ofEvents hop;exact touch_mute (hm e he)) (fun op hop=>by obtain⟨e,he,rfl⟩:=Go.Conc.mem_ofEvents hop;exact low_mute (hm e he) _) fun j hj=> ?_;rw[hdeaf j (hni j hj)];exact h.tr.hears j hj
 ·have hj':gs.size<=j:=by simpa using hj
  rw[hdeaf j (by omega)];exact h.above j hj'
theorem Inv.spawn (h:Inv P φ Fin (n+1) k D l gs u t q H) (hk:k<φ.Hn) (d:Nat) {g' child:gO} (hg:g'.status= .running) (hc:child.status= .running) {o1 o2:MemOp}
  (h1:o1.g=0/\o1.act= .go gs.size) (h2:o2.g=gs.size/\o2.act= .start):
  Inv P φ Fin n (k+1) D (l.set 0 (some (⟨fun _=>False,fun b=>(H 0).mine b\/(H 0).sh b⟩,g',u.at d))++ [some (⟨fun _=>False,fun b=>(H 0).mine b\/(H 0).sh b⟩,child,u.at d)]) ((gs.setIfInBounds 0 g').push child) (u.at d) (t++ #[o1,o2]) q
   (upd (upd H 0 ⟨fun _=>False,fun b=>(H 0).mine b\/(H 0).sh b⟩) gs.size ⟨fun _=>False,fun b=>(H 0).mine b\/(H 0).sh b⟩):=by
 have hpos:=h.pos;have hD:=h.dpos hk;have hsz:=h.size;have hn0:=φ.pos;generalize hhn:(⟨fun _=>False,fun b=>(H 0).mine b\/(H 0).sh b⟩:Hold)=hn at *;have hmine: ∀b,¬hn.mine b:=fun b=>by rw[<-hhn];exact fun x=>x
 have hsh: ∀b,hn.sh b->(H 0).mine b\/(H 0).sh b:=fun b=>by rw[<-hhn];exact fun x=>x
 have hkid: ∀c,Kid φ (k+1) D c↔Kid φ k D c\/c=gs.size:=by
  intro c;subst hD;unfold Kid;simp only[List.not_mem_nil,not_false_eq_true,and_true];omega
 have hnew: ¬Kid φ k D gs.size:=fun x=>by have:=x.2.1;omega
 have hkl: ∀c,Kid φ k D c->c<gs.size:=fun c hc=>by have:=hc.2.1;omega
 have hH0:upd (upd H 0 hn) gs.size hn 0=hn:=by rw[upd_ne _ _ (by omega),upd_same]
 have hHc:upd (upd H 0 hn) gs.size hn gs.size=hn:=upd_same _ _ _;have hHz: ∀z,z≠0->z≠gs.size->upd (upd H 0 hn) gs.size hn z=H z:=fun z a b=>by rw[upd_ne _ _ b,upd_ne _ _ a]
 have hother: ∀b z,hn.sh b->Kid φ k D z-> ¬(H z).mine b:=fun b z hb hz hm=>by
  rcases hsh b hb with hb |hb
  ·exact h.apt.mm 0 z b (.inl rfl) (.inr hz) (Ne.symm hz.ne0) hb hm
  ·exact h.apt.ms z 0 b (.inr hz) (.inl rfl) hm hb
 have hlen:(l.set 0 (some (hn,g',u.at d))).length=gs.size:=by simpa using h.len
 have hset: ∀j,j≠0->j<gs.size->((gs.setIfInBounds 0 g').push child)[j]? =gs[j]? :=fun j a b=>by
  rw[Array.getElem?_push,if_neg (by simp;omega),Array.getElem?_setIfInBounds_ne (Ne.symm a)]
 have hl0:(l.set 0 (some (hn,g',u.at d))++ [some (hn,child,u.at d)])[0]? =some (some (hn,g',u.at d)):=by
  rw[List.getElem?_append_left (by omega),List.getElem?_set_self (by rw[h.len];exact hpos)]
 have hlc:(l.set 0 (some (hn,g',u.at d))++ [some (hn,child,u.at d)])[gs.size]? =some (some (hn,child,u.at d)):=by
  rw[List.getElem?_append_right (by omega),hlen];simp
 have hlj: ∀j,j≠0->j<gs.size->(l.set 0 (some (hn,g',u.at d))++ [some (hn,child,u.at d)])[j]? =l[j]? :=fun j a b=>by
  rw[List.getElem?_append_left (by omega),List.getElem?_set_ne (Ne.symm a)]
 have hjlt: ∀{j:Nat} {o:Option X},(l.set 0 (some (hn,g',u.at d))++ [some (hn,child,u.at d)])[j]? =some o->j<=gs.size:=fun {j o} hj=>by
  have:=(lS.1 hj).1;simp only[List.length_append,List.length_cons,List.length_nil,hlen] at this;omega
 have hcases: ∀j,j<=gs.size->j=0\/j=gs.size\/(j≠0/\j<gs.size):=fun j hj=>by omega
 have hpl: ∀op∈ #[o1,o2],op.act≠ .mark .disable/\op.act≠ .mark .enable:=fun op hop=>by
  simp only[List.mem_toArray,List.mem_cons,List.not_mem_nil,or_false] at hop
  rcases hop with rfl |rfl
  ·rw[h1.2];exact⟨by simp,by simp⟩
  ·rw[h2.2];exact⟨by simp,by simp⟩
 refine⟨by have:=h.cnt;omega,by omega,h.dnd,fun x hx=>Nat.lt_succ_of_lt (h.dlt x hx),fun _=>hD,by simp[h.len],by simp;omega,fun j z hj=> ?_,fun j z hj0 hj=> ?_,fun j g hj0 hj hg=> ?_,fun hj=> ?_, ?_, ?_,fun j b hj hb=> ?_,fun j b hj hb=> ?_,h.ext.at d,fun j hj=> ?_,h.chans⟩
 ·rcases hcases j (hjlt hj) with rfl |rfl |⟨a,b⟩
  ·rw[hl0,oI,oI] at hj;subst hj;exact⟨by rw[Array.getElem?_push,if_neg (by simp;omega)];simp[hpos],hH0.symm,Off.refl _ _,hg⟩
  ·rw[hlc,oI,oI] at hj;subst hj;exact⟨by rw[Array.getElem?_push,if_pos (by simp)],hHc.symm,Off.refl _ _,hc⟩
  ·rw[hlj j a b] at hj;obtain⟨q1,q2,q3,q4⟩:=h.priv j z hj;rw[hset j a b,hHz j a (by omega)];exact⟨q1,q2,q3.trans (Off.at _ _ _),q4⟩
 ·rcases hcases j (hjlt hj) with rfl |rfl |⟨a,b⟩
  ·exact absurd rfl hj0
  ·exact(hkid _).2 (.inr rfl)
  ·rw[hlj j a b] at hj;exact(hkid _).2 (.inl (h.kidp j z hj0 hj))
 ·rcases hcases j (hjlt hj) with rfl |rfl |⟨a,b⟩
  ·exact absurd rfl hj0
  ·rw[hlc] at hj;cases hj
  ·rw[hlj j a b] at hj;rw[hset j a b] at hg;rw[qw t _ j hpl]
   rcases h.rest j g hj0 hj hg with ⟨p1,p2⟩ |⟨p1,p2⟩
   ·exact .inl ⟨(hkid _).2 (.inl p1),p2⟩
   ·exact .inr ⟨fun x=>((hkid _).1 x).elim p1 (by omega),p2⟩
 ·rw[hl0] at hj;cases hj
 ·exact h.tr.fork (by omega) (h.above _ (Nat.le_refl _)) h1 h2 hkid (fun z hz hz0=>hHz z hz0 (by have:=hkl z hz;omega)) (fun b=>by rw[hHc];exact hmine b) (fun b hb z hz hz0=>by rw[hHc] at hb;exact hother b z hb hz) hnew
 ·have hin: ∀j,Ac (Kid φ (k+1) D) j->j=0\/j=gs.size\/(Kid φ k D j/\upd (upd H 0 hn) gs.size hn j=H j):=fun j hj=>by
   rcases hj with rfl |hj
   ·exact .inl rfl
   ·rcases(hkid j).1 hj with hj |hj
    ·exact .inr (.inr ⟨hj,hHz j hj.ne0 (by have:=hkl j hj;omega)⟩)
    ·exact .inr (.inl hj)
  have nomine: ∀j b,(j=0\/j=gs.size)-> ¬(upd (upd H 0 hn) gs.size hn j).mine b:=fun j b hj=>by
   rcases hj with rfl |rfl
   ·rw[hH0];exact hmine b
   ·rw[hHc];exact hmine b
  refine⟨fun a b c ha hb hab hm hm'=> ?_,fun a b c ha hb hm hm'=> ?_⟩
  ·rcases hin a ha with e |e |⟨ka,ea⟩
   ·exact nomine a c (.inl e) hm
   ·exact nomine a c (.inr e) hm
   rcases hin b hb with e |e |⟨kb,eb⟩
   ·exact nomine b c (.inl e) hm'
   ·exact nomine b c (.inr e) hm'
   rw[ea] at hm;rw[eb] at hm';exact h.apt.mm a b c (.inr ka) (.inr kb) hab hm hm'
  ·rcases hin a ha with e |e |⟨ka,ea⟩
   ·exact nomine a c (.inl e) hm
   ·exact nomine a c (.inr e) hm
   rw[ea] at hm
   rcases hin b hb with rfl |rfl |⟨kb,eb⟩
   ·rw[hH0] at hm';exact hother c a hm' ka hm
   ·rw[hHc] at hm';exact hother c a hm' ka hm
   ·rw[eb] at hm';exact h.apt.ms a b c (.inr ka) (.inr kb) hm hm'
 ·have hnlow:hn.mine b\/hn.sh b->b<(u.at d).heap.size/\b≠φ.chA/\b≠φ.chB:=fun hb=>by
   rcases hb with hb |hb
   ·exact absurd hb (hmine b)
   ·exact h.low 0 b (.inl rfl) (hsh b hb)
  rcases hj with rfl |hj
  ·rw[hH0] at hb;exact hnlow hb
  ·rcases(hkid j).1 hj with hj |rfl
   ·rw[hHz j hj.ne0 (by have:=hkl j hj;omega)] at hb;exact h.low j b (.inr hj) hb
   ·rw[hHc] at hb;exact hnlow hb
 ·rcases hj with rfl |hj
  ·rw[hH0] at hb;exact absurd hb (hmine b)
  ·rcases(hkid j).1 hj with hj |rfl
   ·rw[hHz j hj.ne0 (by have:=hkl j hj;omega)] at hb;exact h.base j b (.inr hj) hb
   ·rw[hHc] at hb;exact absurd hb (hmine b)
 ·have hj':gs.size<=j:=by simp at hj;omega
  rw[qw t _ j hpl];exact h.above j hj'
theorem Inv.parkMain (h:Inv P φ Fin (n+1) k D l gs u t q H) {x:X} (hl:l[0]? =some (some x)) (hk:k=φ.Hn) (d:Nat) {g₂:gO}
  (hK: ∀m,m<φ.Hn-> ∀u',Off (H 0) (u.at d) u'->m∉D->MV P true (dU P φ Fin n k (m::D)) (H 0,g₂.finishComm P φ.cases .select (if φ.isA m then 0 else 1) (φ.val m) true,u'))
  (hno: ∀i g,Kid φ k D i->l[i]? =some none->gs[i]? =some g->False):
  Inv P φ Fin (n+1) k D (l.set 0 none) (gs.setIfInBounds 0 (parked g₂ φ.cases .select)) (u.at d) t q H:=by
 have hlt:=h.lt hl;have hset: ∀j,j≠0->(gs.setIfInBounds 0 (parked g₂ φ.cases .select))[j]? =gs[j]? :=fun j hj=>Array.getElem?_setIfInBounds_ne (Ne.symm hj);have hls: ∀j,j≠0->(l.set 0 none)[j]? =l[j]? :=fun j hj=>List.getElem?_set_ne (Ne.symm hj);refine⟨h.cnt,h.kle,h.dnd,h.dlt,h.dpos,by simpa using h.len,by simpa using h.size,fun j z hj=> ?_,fun j z h0 hj=> ?_,fun j g h0 hj hg=> ?_,fun _=> ?_,h.tr,h.apt,h.low,h.base,h.ext.at d,fun j hj=>h.above j (by simpa using hj),h.chans⟩
 ·have e:j≠0:=fun e=>by subst e;rw[List.getElem?_set_self (by rw[h.len];exact hlt)] at hj;cases hj
  rw[hls j e] at hj;obtain⟨q1,q2,q3,q4⟩:=h.priv j z hj;exact⟨by rw[hset j e];exact q1,q2,q3.trans (Off.at _ _ _),q4⟩
 ·rw[hls j h0] at hj;exact h.kidp j z h0 hj
 ·rw[hls j h0] at hj;rw[hset j h0] at hg;exact h.rest j g h0 hj hg
 ·refine⟨g₂,n,by rw[Array.getElem?_setIfInBounds_self_of_lt hlt],rfl,hk,fun m hm hD u' ho=>hK m hm u' ho hD,fun i hi=> ?_⟩;rw[hls i hi.ne0];have hil:i<gs.size:=by have:=hi.2.1;have:=h.size;omega
  obtain⟨o,ho⟩:=h.some_of_lt hil
  cases o with
  |some y=>exact⟨y,ho⟩
  |none=>exact(hno i gs[i] hi ho (Array.getElem?_eq_getElem hil)).elim
theorem Inv.parkKid (h:Inv P φ Fin n k D l gs u t q H) {i:Nat} {x y:X} (h0:i≠0) (hl:l[i]? =some (some x)) (hm:l[0]? =some (some y)) (d:Nat) {g₂:gO} {m:Nat} (hq:QuitsD P m 0 (Go.Conc.served g₂ undef)):
  Inv P φ Fin n k D (l.set i none) (gs.setIfInBounds i (parked g₂ (φ.send (i-φ.n0)) .send)) (u.at d) t q H:=by
 have hlt:=h.lt hl;have hset: ∀j,j≠i->(gs.setIfInBounds i (parked g₂ (φ.send (i-φ.n0)) .send))[j]? =gs[j]? :=fun j hj=>Array.getElem?_setIfInBounds_ne (Ne.symm hj);have hls: ∀j,j≠i->(l.set i none)[j]? =l[j]? :=fun j hj=>List.getElem?_set_ne (Ne.symm hj);refine⟨h.cnt,h.kle,h.dnd,h.dlt,h.dpos,by simpa using h.len,by simpa using h.size,fun j z hj=> ?_,fun j z hj0 hj=> ?_,fun j g hj0 hj hg=> ?_,fun hj=> ?_,h.tr,h.apt,h.low,h.base,h.ext.at d,fun j hj=>h.above j (by simpa using hj),h.chans⟩
 ·have e:j≠i:=fun e=>by subst e;rw[List.getElem?_set_self (by rw[h.len];exact hlt)] at hj;cases hj
  rw[hls j e] at hj;obtain⟨q1,q2,q3,q4⟩:=h.priv j z hj;exact⟨by rw[hset j e];exact q1,q2,q3.trans (Off.at _ _ _),q4⟩
 ·have e:j≠i:=fun e=>by subst e;rw[List.getElem?_set_self (by rw[h.len];exact hlt)] at hj;cases hj
  rw[hls j e] at hj;exact h.kidp j z hj0 hj
 ·by_cases e:j=i
  ·subst e;rw[Array.getElem?_setIfInBounds_self_of_lt hlt,oI] at hg;exact .inl ⟨h.kidp j x h0 hl,g₂,m,hg.symm,hq⟩
  ·rw[hls j e] at hj;rw[hset j e] at hg;exact h.rest j g hj0 hj hg
 ·rw[hls 0 (Ne.symm h0),hm] at hj;cases hj
theorem AB (u:wD) (c cap:Nat) (buf:Array Value) (cl:Bool) (s r:Nat) (tm:Bool) (b:Nat) (hb:b≠c):(u.setChan c cap buf cl s r tm).heap[b]? =u.heap[b]? :=by
 show (u.heap.setIfInBounds c _)[b]? =_
 rw[Array.getElem?_setIfInBounds_ne (Ne.symm hb)]
theorem DR {Hd:Hold} {u:wD} {c:Nat} (hc: ∀b,Hd.mine b\/Hd.sh b->b≠c) (d cap:Nat) (buf:Array Value) (cl:Bool) (s r:Nat) (tm:Bool):Off Hd u ((u.at d).setChan c cap buf cl s r tm):=by
 refine⟨?_,fun b _ hb=>AB _ _ _ _ _ _ _ _ _ (hc b hb),rfl,rfl,rfl⟩
 show _<=(u.heap.setIfInBounds c _).size
 simp
theorem Inv.hand (h:Inv P φ Fin (n+1) k D l gs u t q H) {i:Nat} (hi:Kid φ k D i) (hk:k=φ.Hn) (d s:Nat) (hch:u.heap[φ.chan (i-φ.n0)]? =some (.chan 0 #[] false s s false)) {gM gK:gO} {m:Nat}
  {gs':Array gO} (hsz:gs'.size=gs.size) (h0:gs'[0]? =some gM) (hi':gs'[i]? =some gK) (hoth: ∀j,j≠0->j≠i->gs'[j]? =gs[j]?) (hM:gM.status= .running) (hK:QuitsD P m 0 gK) {o1 o2 o3 o4:MemOp}
  (h1:o1.g=i/\o1.act= .send (φ.chan (i-φ.n0)) s) (h2:o2.g=0/\o2.act= .recv (φ.chan (i-φ.n0)) s 0) (h3:o3.g=i/\o3.act= .sendDone (φ.chan (i-φ.n0)) s) (h4:o4.g=0/\o4.act= .recvDone (φ.chan (i-φ.n0)) s):
  Inv P φ Fin n k ((i-φ.n0)::D) ((l.set i none).set 0 (some (H 0,gM,(u.at d).setChan (φ.chan (i-φ.n0)) 0 #[] false (s+1) (s+1) false))) gs' ((u.at d).setChan (φ.chan (i-φ.n0)) 0 #[] false (s+1) (s+1) false) (t++ #[o1,o2,o3,o4]) (upd q i m) H:=by
 have hi0:=hi.ne0;have hilt:i<gs.size:=by have:=hi.2.1;have:=h.size;omega
 have hchan:φ.chan (i-φ.n0)=φ.chA\/φ.chan (i-φ.n0)=φ.chB:=by unfold Ph.chan;split<;>simp
 have hlowc: ∀j,Ac (Kid φ k D) j-> ∀b,(H j).mine b\/(H j).sh b->b≠φ.chan (i-φ.n0):=fun j hj b hb=>by
  obtain⟨_,q1,q2⟩:=h.low j b hj hb
  rcases hchan with e |e<;>rw[e]<;>assumption
 have hoff: ∀j,Ac (Kid φ k D) j->Off (H j) u ((u.at d).setChan (φ.chan (i-φ.n0)) 0 #[] false (s+1) (s+1) false):=fun j hj=>DR (hlowc j hj) d 0 #[] false (s+1) (s+1) false;have hsize:((u.at d).setChan (φ.chan (i-φ.n0)) 0 #[] false (s+1) (s+1) false).heap.size=u.heap.size:=by
  show (u.heap.setIfInBounds _ _).size=_
  simp
 have hkid: ∀c,Kid φ k ((i-φ.n0)::D) c↔Kid φ k D c/\c≠i:=fun c=>by
  have q1:=hi.1;unfold Kid;simp only[List.mem_cons,not_or];constructor
  ·rintro⟨a,b,c1,c2⟩;exact⟨⟨a,b,c2⟩,fun e=>c1 (by rw[e])⟩
  ·rintro⟨⟨a,b,c2⟩,c1⟩;exact⟨a,b,by omega,c2⟩
 have hsub: ∀j,Ac (Kid φ k ((i-φ.n0)::D)) j->Ac (Kid φ k D) j:=fun j hj=>hj.imp id fun x=>((hkid j).1 x).1;have hpl: ∀op∈ #[o1,o2,o3,o4],op.act≠ .mark .disable/\op.act≠ .mark .enable:=fun op hop=>by
  have:op=o1\/op=o2\/op=o3\/op=o4:=by simpa using hop
  rcases this with rfl |rfl |rfl |rfl
  ·rw[h1.2];exact⟨by simp,by simp⟩
  ·rw[h2.2];exact⟨by simp,by simp⟩
  ·rw[h3.2];exact⟨by simp,by simp⟩
  ·rw[h4.2];exact⟨by simp,by simp⟩
 have hl0:((l.set i none).set 0 (some (H 0,gM,(u.at d).setChan (φ.chan (i-φ.n0)) 0 #[] false (s+1) (s+1) false)))[0]? =some (some (H 0,gM,(u.at d).setChan (φ.chan (i-φ.n0)) 0 #[] false (s+1) (s+1) false)):=
  List.getElem?_set_self (by rw[List.length_set,h.len];exact h.pos)
 have hli:((l.set i none).set 0 (some (H 0,gM,(u.at d).setChan (φ.chan (i-φ.n0)) 0 #[] false (s+1) (s+1) false)))[i]? =some none:=by
  rw[List.getElem?_set_ne (Ne.symm hi0),List.getElem?_set_self (by rw[h.len];exact hilt)]
 have hlj: ∀j,j≠0->j≠i->((l.set i none).set 0 (some (H 0,gM,(u.at d).setChan (φ.chan (i-φ.n0)) 0 #[] false (s+1) (s+1) false)))[j]? =l[j]? :=fun j a b=>by
  rw[List.getElem?_set_ne (Ne.symm a),List.getElem?_set_ne (Ne.symm b)]
 refine⟨by have:=h.cnt;simp;omega,h.kle,List.nodup_cons.2 ⟨hi.2.2,h.dnd⟩,fun x hx=> ?_,fun hlt=>absurd hk (by omega),by simp[h.len,hsz],by rw[hsz];exact h.size,fun j z hj=> ?_,fun j z hj0 hj=> ?_,fun j g hj0 hj hg=> ?_,fun hj=> ?_, ?_,⟨fun a b c ha hb=>h.apt.mm a b c (hsub a ha) (hsub b hb),fun a b c ha hb=>h.apt.ms a b c (hsub a ha) (hsub b hb)⟩,fun j b hj hb=> ?_,fun j b hj=>h.base j b (hsub j hj), ?_,fun j hj=> ?_, ?_⟩
 ·rcases List.mem_cons.1 hx with rfl |hx
  ·have q1:=hi.1;have q2:=hi.2.1;omega
  ·exact h.dlt x hx
 ·by_cases e0:j=0
  ·subst e0;rw[hl0,oI,oI] at hj;subst hj;exact⟨h0,rfl,Off.refl _ _,hM⟩
  ·by_cases e:j=i
   ·subst e;rw[hli] at hj;cases hj
   ·rw[hlj j e0 e] at hj;obtain⟨q1,q2,q3,q4⟩:=h.priv j z hj;exact⟨by rw[hoth j e0 e];exact q1,q2,q3.trans (hoff j (h.ac hj)),q4⟩
 ·by_cases e:j=i
  ·subst e;rw[hli] at hj;cases hj
  ·rw[hlj j hj0 e] at hj;exact(hkid j).2 ⟨h.kidp j z hj0 hj,e⟩
 ·by_cases e:j=i
  ·subst e;rw[hi',oI] at hg;subst hg;refine .inr ⟨fun x=>((hkid j).1 x).2 rfl, ?_⟩;rw[upd_same,qw t _ j hpl,h.tr.hears j (.inr hi)];exact hK
  ·rw[hlj j hj0 e] at hj;rw[hoth j hj0 e] at hg;rw[qw t _ j hpl,upd_ne q _ e]
   rcases h.rest j g hj0 hj hg with ⟨p1,p2⟩ |⟨p1,p2⟩
   ·exact .inl ⟨(hkid j).2 ⟨p1,e⟩,p2⟩
   ·exact .inr ⟨fun x=>p1 ((hkid j).1 x).1,p2⟩
 ·rw[hl0] at hj;cases hj
 ·rw[hsize];exact h.tr.hand hi h1 h2 h3 h4 (aS.1 hch).1 hkid
 ·rw[hsize];exact h.low j b (hsub j hj) hb
 ·refine⟨by rw[hsize];exact h.ext.size,fun b hb=> ?_,h.ext.same⟩;rw[AB _ _ _ _ _ _ _ _ _ (by have:=φ.lowA;have:=φ.lowB;rcases hchan with e |e<;>omega)];exact h.ext.keep b hb
 ·rw[qw t _ j hpl];exact h.above j (by rw[<-hsz];exact hj)
 ·obtain⟨s1,s2,c1,c2⟩:=h.chans;have l1:=(aS.1 c1).1;have l2:=(aS.1 c2).1;have hself: ∀c,c<u.heap.size->((u.at d).setChan c 0 #[] false (s+1) (s+1) false).heap[c]? =some (.chan 0 #[] false (s+1) (s+1) false):=fun c hc=>by
   show (u.heap.setIfInBounds c _)[c]? =_
   rw[Array.getElem?_setIfInBounds_self_of_lt hc]
  rcases hchan with e |e
  ·rw[e];exact⟨s+1,s2,hself _ l1,by rw[AB _ _ _ _ _ _ _ _ _ (Ne.symm φ.ne)];exact c2⟩
  ·rw[e];exact⟨s1,s+1,by rw[AB _ _ _ _ _ _ _ _ _ φ.ne];exact c1,hself _ l2⟩
end
end Go.Tp
