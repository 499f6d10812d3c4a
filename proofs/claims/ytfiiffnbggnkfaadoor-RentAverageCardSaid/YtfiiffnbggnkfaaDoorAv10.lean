/- A part of the proof of a law; no conditions of its own. -/
import Derived.Test.YtfiiffnbggnkfaaDoorAv09
import Derived.Conc.Own2
import Derived.Below
import Derived.Conc.PipeWords
import Derived.Conc.EventLaws2
import Derived.Conc.CompanyWords
import Derived.Great.Frames
open Go.RowKit renaming Below→bX
open Go renaming Goroutine→gO, Value→vL, World→wD
open Go.IntKind renaming i64→qi
open Go.Value renaming int→iN, slice→sL
set_option maxRecDepth 100000
open Nat renaming le_refl→nR
open Go.Lib renaming hid→lH
open Go.RowKit.Below renaming refl→bR
open Array renaming getElem?_eq_some_iff→aS
open Go.World renaming cell?_setCell_other→wO
open Option.some renaming injEq→oI
set_option maxHeartbeats 4000000
namespace Go.Tp
open Go.Conc Go.ConcN
section
variable {P:Program} {φ:Ph} {Fin:Hold->gO->wD->Prop} {n k:Nat} {D:List Nat} {l:List (Option X)} {gs:Array gO} {u:wD} {t:Trace} {q:Nat->Nat} {H:Nat->Hold}
def cnt:List (Option X)->Nat
 | []=>0
 |some _::l=>cnt l+1
 |none::l=>cnt l
theorem JY: ∀{l:List (Option X)} {i:Nat} {x y:X},l[i]? =some (some x)->cnt (l.set i (some y))=cnt l
 | [],i,_,_,h=>by simp at h
 |o::l,0,x,y,h=>by
  simp only[List.getElem?_cons_zero,oI] at h;subst h;rfl
 |o::l,i+1,x,y,h=>by
  have:=JY (l:=l) (i:=i) (x:=x) (y:=y) (by simpa using h)
  cases o<;>simp only[List.set_cons_succ,cnt,this]
theorem DT: ∀{l:List (Option X)} {i:Nat} {x:X},l[i]? =some (some x)->cnt (l.set i none)<cnt l
 | [],i,_,h=>by simp at h
 |o::l,0,x,h=>by
  simp only[List.getElem?_cons_zero,oI] at h;subst h;simp[cnt]
 |o::l,i+1,x,h=>by
  have:=DT (l:=l) (i:=i) (x:=x) (by simpa using h)
  cases o<;>simp only[List.set_cons_succ,cnt]<;>omega
variable (P φ Fin) in
def Done (gs:Array gO) (u:wD) (sl:Option (Nat×Nat)) (t:Trace):Prop:=
 ∃N gs' u' sl' t' q' g H,runNT P N (crowd gs u sl) t=(.next (crowd gs' u' sl'),t')/\gs'.size=φ.n0+φ.Hn/\gs'[0]? =some g/\g.status= .running/\Fin H g u'/\Leavers P t' gs' q'/\Past (fun _=>False) u'.heap.size t'/\Ext φ.u0 u'
theorem Done.step {gs':Array gO} {u':wD} {sl sl':Option (Nat×Nat)} {ops:Trace} (hs:stepT P (crowd gs u sl)=(.next (crowd gs' u' sl'),ops)) (h:Done P φ Fin gs' u' sl' (t++ops)):Done P φ Fin gs u sl t:=by
 obtain⟨N,gs2,u2,sl2,t2,q2,g2,H2,h1,h2⟩:=h;exact⟨N+1,gs2,u2,sl2,t2,q2,g2,H2,by simp only[runNT,hs];exact h1,h2⟩
variable (P φ Fin) in
def PL (n k:Nat) (D:List Nat) (l:List (Option X)):Prop:= ∀i x,l[i]? =some (some x)->MV P (i==0) (qx P φ Fin n k D i) x
theorem JZ: ∀(n:Nat) (l:List Nat),l.length<n-> ∃x,x<n/\x∉l
 | 0,l,h=>by omega
 |n+1,l,h=>by
  by_cases hm:n∈l
  ·have hlen:(l.erase n).length=l.length-1:=List.length_erase_of_mem hm;have hpos:0<l.length:=List.length_pos_of_mem hm;obtain⟨x,hx,hn⟩:=JZ n (l.erase n) (by omega);exact⟨x,by omega,fun hxl=>hn ((List.mem_erase_of_ne (by omega)).2 hxl)⟩
  ·exact⟨n,by omega,hm⟩
theorem Inv.none_left (h:Inv P φ Fin 0 k D l gs u t q H):k=φ.Hn/\ ∀c,¬Kid φ k D c:=by
 have h1:=h.cnt;have h2:=h.kle;obtain⟨h3,h4⟩:=Az k D h.dnd h.dlt;refine⟨by omega,fun c hc=> ?_⟩;have q1:=hc.1;have q2:=hc.2.1;exact hc.2.2 (h4 (by omega) (c-φ.n0) (by omega))
theorem Inv.awake (h:Inv P φ Fin n k D l gs u t q H): ∀g∈gs,awake g:=by
 intro g hg;obtain⟨i,hi,rfl⟩:=Array.mem_iff_getElem.1 hg;have hgi:gs[i]? =some gs[i]:=Array.getElem?_eq_getElem hi;obtain⟨o,ho⟩:=h.some_of_lt hi
 cases o with
 |some y=>
  obtain⟨h1,_,_,h4⟩:=h.priv i y ho;rw[hgi,oI] at h1;rw[h1];exact awake_of (.inl h4)
 |none=>
  by_cases e:i=0
  ·subst e;obtain⟨g₂,_,h1,_⟩:=h.main ho;rw[hgi,oI] at h1;rw[h1];exact awake_of (.inr (.inl rfl))
  ·rcases h.rest i _ e ho hgi with ⟨_,g₂,_,e2,_⟩ |⟨_,hq⟩
   ·rw[e2];exact awake_of (.inr (.inl rfl))
   ·exact awake_of (hq.status.elim .inl fun x=> .inr (.inr x))
theorem Inv.somebody (h:Inv P φ Fin n k D l gs u t q H): ∃(i:Nat) (g:gO),gs[i]? =some g/\g.status= .running:=by
 obtain⟨o,ho⟩:=h.some_of_lt h.pos
 cases o with
 |some y=>exact⟨0,y.2.1,(h.priv 0 y ho).1,(h.priv 0 y ho).2.2.2⟩
 |none=>
  obtain⟨_,n',_,h2,h3,_,h5⟩:=h.main ho;obtain⟨m,hm,hmD⟩:=JZ φ.Hn D (by have:=h.cnt;omega);obtain⟨x,hx⟩:=h5 (φ.n0+m) ⟨by omega,by omega,by rw[Nat.add_sub_cancel_left];exact hmD⟩;exact⟨_,x.2.1,(h.priv _ x hx).1,(h.priv _ x hx).2.2.2⟩
theorem Inv.offers (h:Inv P φ Fin n k D l gs u t q H) {j c:Nat} {g:gO} (hj:gs[j]? =some g) (ho:offersAt g c true≠ []):Kid φ k D j/\l[j]? =some none/\φ.chan (j-φ.n0)=c/\offersAt g c true= [0]/\ ∃g₂ m,g=parked g₂ (φ.send (j-φ.n0)) .send/\QuitsD P m 0 (Go.Conc.served g₂ undef):=by
 obtain⟨o,hl⟩:=h.some_of_lt ((aS.1 hj).1)
 cases o with
 |some y=>
  obtain⟨h1,_,_,h4⟩:=h.priv j y hl;rw[hj,oI] at h1;exact absurd (offersAt_of_not_blocked (by rw[h1,h4];simp) c true) ho
 |none=>
  by_cases e:j=0
  ·subst e;obtain⟨g₂,_,h1,_⟩:=h.main hl;rw[hj,oI] at h1;subst h1;refine absurd (offersAt_parked_sends (fun cc hcc=> ?_) c) ho;simp only[Ph.cases,List.mem_toArray,List.mem_cons,List.not_mem_nil,or_false] at hcc
   rcases hcc with rfl |rfl<;>rfl
  ·rcases h.rest j g e hl hj with ⟨h1,g₂,m,rfl,h2⟩ |⟨_,hq⟩
   ·have:=offersAt_parked_send g₂ (φ.chan (j-φ.n0)) (φ.val (j-φ.n0)) (.tuple #[]) .send c;refine⟨h1,hl, ?_, ?_,g₂,m,rfl,h2⟩
    ·by_cases e2:φ.chan (j-φ.n0)=c
     ·exact e2
     ·rw[if_neg e2] at this;exact absurd this ho
    ·by_cases e2:φ.chan (j-φ.n0)=c
     ·rw[if_pos e2] at this;exact this
     ·rw[if_neg e2] at this;exact absurd this ho
   ·exact absurd (offersAt_of_not_blocked (by rcases hq.status with x |x<;>rw[x]<;>simp) c true) ho
theorem Inv.offersRecv (h:Inv P φ Fin n k D l gs u t q H) {j c:Nat} {g:gO} (hj:gs[j]? =some g) (hj0:j≠0):offersAt g c false= []:=by
 obtain⟨o,hl⟩:=h.some_of_lt ((aS.1 hj).1)
 cases o with
 |some y=>
  obtain⟨h1,_,_,h4⟩:=h.priv j y hl;rw[hj,oI] at h1;exact offersAt_of_not_blocked (by rw[h1,h4];simp) c false
 |none=>
  rcases h.rest j g hj0 hl hj with ⟨h1,g₂,m,rfl,h2⟩ |⟨_,hq⟩
  ·exact offersAt_parked_send' g₂ (φ.chan (j-φ.n0)) (φ.val (j-φ.n0)) (.tuple #[]) .send c
  ·exact offersAt_of_not_blocked (by rcases hq.status with x |x<;>rw[x]<;>simp) c false
theorem AL {i:Nat} (hi:i≠0) (n k:Nat) (D:List Nat):qx P φ Fin n k D i=AtSend P φ (i-φ.n0):=by unfold qx;rw[if_neg hi]
theorem AO (n k:Nat) (D:List Nat):qx P φ Fin n k D 0=dU P φ Fin n k D:=by unfold qx;rw[if_pos rfl]
def Ph.ix (φ:Ph) (h:Nat):Nat:=if φ.isA h then 0 else 1
theorem Ph.ix_get (φ:Ph) (h:Nat):φ.cases[φ.ix h]? =some (rcase (φ.chan h) φ.z0):=by
 unfold Ph.ix Ph.chan Ph.cases
 cases φ.isA h<;>rfl
theorem Ph.ix_cast (φ:Ph) (h:Nat):((φ.ix h:Nat):Int)=if φ.isA h then 0 else 1:=by
 unfold Ph.ix
 cases φ.isA h<;>rfl
theorem Ph.ix_of (φ:Ph) {h k:Nat} {z:vL} (hk:φ.cases[k]? =some (rcase (φ.chan h) z)):k=φ.ix h:=by
 have hn:=φ.ne;have hch: ∀c z,some (rcase c φ.z0)=some (rcase (φ.chan h) z)->c=φ.chan h:=fun c z e=>by
  have:=congrArg CommCase.chan (Option.some.inj e);simp[rcase] at this;exact this
 unfold Ph.cases at hk
 match k,hk with
 | 0,hk=>
  have e:=hch φ.chA z hk;unfold Ph.chan at e;unfold Ph.ix
  cases hA:φ.isA h with
  |true=>rfl
  |false=>rw[hA] at e;exact absurd e hn
 | 1,hk=>
  have e:=hch φ.chB z hk;unfold Ph.chan at e;unfold Ph.ix
  cases hA:φ.isA h with
  |true=>rw[hA] at e;exact absurd e (Ne.symm hn)
  |false=>rfl
 |k+2,hk=>simp at hk
theorem Ph.ix_other (φ:Ph) (h m:Nat) (cc:CommCase) (hm:m≠φ.ix h) (hc:φ.cases[m]? =some cc):cc.chan≠ .chan (some (φ.chan h)):=by
 have hn:=φ.ne;unfold Ph.ix at hm;unfold Ph.cases at hc;unfold Ph.chan
 match m,hc with
 | 0,hc=>
  simp only[List.getElem?_toArray,List.getElem?_cons_zero,oI] at hc;subst hc
  cases hA:φ.isA h with
  |true=>rw[hA] at hm;exact absurd rfl hm
  |false=>simp[rcase,hn]
 | 1,hc=>
  simp only[List.getElem?_toArray,List.getElem?_cons_succ,List.getElem?_cons_zero,oI] at hc;subst hc
  cases hA:φ.isA h with
  |true=>simp[rcase,Ne.symm hn]
  |false=>rw[hA] at hm;exact absurd rfl hm
 |m+2,hc=>simp at hc
theorem Ph.cases_open (φ:Ph) {u:wD} (hc: ∃s s',u.heap[φ.chA]? =some (.chan 0 #[] false s s false)/\u.heap[φ.chB]? =some (.chan 0 #[] false s' s' false)): ∀cc∈φ.cases,∃c z s r,cc=rcase c z/\u.heap[c]? =some (.chan 0 #[] false s r false):=by
 intro cc hcc;obtain⟨s,s',h1,h2⟩:=hc;simp only[Ph.cases,List.mem_toArray,List.mem_cons,List.not_mem_nil,or_false] at hcc
 rcases hcc with rfl |rfl
 ·exact⟨_,_,_,_,rfl,h1⟩
 ·exact⟨_,_,_,_,rfl,h2⟩
theorem sF (g:Nat) (fn:FuncId) (pos:String):MemOp.ofEvents g fn pos #[]= #[]:=rfl
theorem PL.hand {i m:Nat} {x:X} (hT:PL P φ Fin (n+1) k D l) (hx:MV P true (dU P φ Fin n k (m::D)) x):PL P φ Fin n k (m::D) ((l.set i none).set 0 (some x)):=by
 intro j y hj;by_cases e0:j=0
 ·subst e0;rw[List.getElem?_set] at hj;simp only[if_true] at hj
  split at hj
  ·simp only[oI] at hj;subst hj;rw[AO];exact hx
  ·cases hj
 ·rw[List.getElem?_set_ne (Ne.symm e0)] at hj;by_cases e:i=j
  ·subst e;rw[List.getElem?_set] at hj;simp only[if_true] at hj
   split at hj<;>cases hj
  ·rw[List.getElem?_set_ne e] at hj;have:=hT j y hj;rw[AL e0] at this ⊢;exact this
theorem Ko (n:Nat) (IH: ∀n',n=n'+1-> ∀k D l gs u sl t q H,Inv P φ Fin n' k D l gs u t q H->PL P φ Fin n' k D l->Done P φ Fin gs u sl t):
  ∀k D c l,cnt l=c-> ∀gs u sl t q H,Inv P φ Fin n k D l gs u t q H->PL P φ Fin n k D l->Done P φ Fin gs u sl t:=by
 intro k D c
 induction c using Nat.strongRecOn with
 |_ c IHc=>
 intro l hc gs u sl t q H hI hT;refine DK l.length (Wj P (fun i=>i==0) (qx P φ Fin n k D)) (fun l=>cnt l=c-> ∀gs u sl t q H,Inv P φ Fin n k D l gs u t q H->Done P φ Fin gs u sl t) ?_ l rfl hT hc gs u sl t q H hI;clear hI hT hc gs u sl t q H l;intro l hN hc gs u sl t q H hI;have hT:PL P φ Fin n k D l:=fun i x hx=>(hN i x hx).1;generalize hS:sumTo gs.size q=S
 induction S using Nat.strongRecOn generalizing gs u sl t q with
 |_ S IHS=>
 by_cases hA:n=0/\ ∃x,l[0]? =some (some x)/\(∀u',Off x.1 x.2.2 u'->dU P φ Fin n k D x.1 x.2.1 u')
 ·obtain⟨rfl,x,hx,hs⟩:=hA;obtain⟨hk,hnk⟩:=hI.none_left;obtain⟨p1,p2,p3,p4⟩:=hI.priv 0 x hx;have hfin:Fin x.1 x.2.1 u:=hs u (by rw[p2];exact p3);refine⟨0,gs,u,sl,t,q,x.2.1,x.1,rfl,by rw[hI.size,hk],p1,p4,hfin,⟨fun i g hi hg=> ?_,hI.above⟩,hI.tr.past fun c hc=>(hnk c hc).elim,hI.ext⟩;obtain⟨o,ho⟩:=hI.some_of_lt ((aS.1 hg).1)
  cases o with
  |some y=>exact(hnk i (hI.kidp i y (by omega) ho)).elim
  |none=>
   rcases hI.rest i g (by omega) ho hg with ⟨h1,_⟩ |⟨_,h2⟩
   ·exact(hnk i h1).elim
   ·exact h2
 obtain⟨i,g,d,sl',hi,hg,hst⟩:=crowd_pick (P:=P) (w:=u) (sl:=sl) hI.awake hI.somebody;obtain⟨o,ho⟩:=hI.some_of_lt ((aS.1 hi).1);have hlt:i<gs.size:=(aS.1 hi).1
 cases o with
 |none=>
  by_cases e:i=0
  ·subst e;obtain⟨g₂,_,h1,_⟩:=hI.main ho;rw[hi,oI] at h1;subst h1;cases hg
  ·have hi0:(i==0)=false:=by simpa using e
   rcases hI.rest i g e ho hi with ⟨_,g₂,_,e2,_⟩ |⟨hk,hq⟩
   ·subst e2;cases hg
   ·cases hqi:q i with
    |zero=>rw[hqi] at hq;rw[hq.1] at hg;cases hg
    |succ m=>
     rw[hqi] at hq
     rcases hq with ⟨hf,_⟩ |⟨_,g',es,hm,hstp,hq'⟩
     ·rw[hf] at hg;cases hg
     have hrunT:=runT_crowd_go (P:=P) (sl:=sl') (i:=i) hi (by rw[hi0];exact hstp (u.at d));rw[hI.woken (w:=u.at d) hI.chans] at hrunT;refine Done.step (hst.trans hrunT) ?_;have hsum:sumTo gs.size (upd q i m)+(m+1)=sumTo gs.size q+m:=by
      have:=sumTo_upd q m id hlt;simpa[hqi] using this
     exact IHS (sumTo gs.size (upd q i m)) (by omega) _ _ _ _ _ (hI.slip e ho hk d g.frame.fn g.frame.place hm hq') (by simp)
 |some x=>
  obtain⟨p1,p2,p3,p4⟩:=hI.priv i x ho;rw[hi,oI] at p1;subst p1;obtain⟨hTi,_,hnode⟩:=hN i x ho;have hoff:Off x.1 x.2.2 (u.at d):=by rw[p2];exact p3.trans (Off.at _ _ _)
  rcases hnode with hstop |hstep
  ·have hs:=hstop (u.at d) hoff;by_cases e:i=0
   ·subst e;rw[AO] at hs hstop
    cases n with
    |zero=>exact absurd ⟨rfl,x,ho,hstop⟩ hA
    |succ n=>
     have hoff0: ∀u',Off (H 0) (u.at d) u'->Off x.1 (u.at d) u':=fun u' ho=>by rw[p2];exact ho
     unfold dU at hs
     split at hs
     ·rename_i hk;obtain⟨g',child,hsp,hkid,hmain⟩:=hs;have hrunT:=runT_crowd_spawn (P:=P) (sl:=sl') (i:=0) hi (show stepG P (0==0) x.2.1 (u.at d)=_ from hsp);rw[sF] at hrunT;refine Done.step (hst.trans hrunT) ?_;have hrg:g'.status= .running:=hmain.running;have hrc:child.status= .running:=hkid.running;have hI':=hI.spawn hk d hrg hrc (o1:={g:=0,fn:=x.2.1.frame.fn,pos:=x.2.1.frame.place,act:= .go gs.size}) (o2:={g:=gs.size,fn:=child.frame.fn,pos:=x.2.1.frame.place,act:= .start}) ⟨rfl,rfl⟩ ⟨rfl,rfl⟩;refine IH n rfl (k+1) D _ _ _ _ _ _ _ hI' fun j y hj=> ?_;have hlen:(l.set 0 (some (⟨fun _=>False,fun b=>(H 0).mine b\/(H 0).sh b⟩,g',u.at d))).length=gs.size:=by simpa using hI.len
      rw[p2] at hmain hkid;by_cases e1:j<gs.size
      ·rw[List.getElem?_append_left (by omega)] at hj;by_cases e0:j=0
       ·subst e0;rw[List.getElem?_set_self (by rw[hI.len];exact hI.pos),oI,oI] at hj;subst hj;rw[AO];exact hmain
       ·rw[List.getElem?_set_ne (Ne.symm e0)] at hj;have:=hT j y hj;rw[AL e0] at this ⊢;exact this
      ·rw[List.getElem?_append_right (by omega),hlen] at hj;have hj0:j-gs.size=0:=by
        have:=(List.getElem?_eq_some_iff.1 hj).1;simpa using this
       rw[hj0] at hj;simp only[List.getElem?_cons_zero,oI] at hj;subst hj;have hjs:j=φ.n0+k:=by have:=hI.size;omega
       subst hjs;have hne:φ.n0+k≠0:=by have:=φ.pos;omega
       rw[AL hne,Nat.add_sub_cancel_left];have e3:((φ.n0+k)==0)=false:=by simpa using hne
       rw[e3];exact hkid
     ·rename_i hk;have hkH:k=φ.Hn:=by have:=hI.kle;omega
      obtain⟨g₂,hcm,hK⟩:=hs;by_cases hany: ∃j g,gs[j]? =some g/\Kid φ k D j/\l[j]? =some none
      ·obtain⟨j,gj,hgj,hkj,hlj⟩:=hany;have hpark:=(hI.rest j gj hkj.ne0 hlj hgj).resolve_right fun z=>z.1 hkj;obtain⟨_,gk,mk,e1,hqk⟩:=hpark;have hofs:offersAt gj (φ.chan (j-φ.n0)) true= [0]:=by
        rw[e1];exact(offersAt_parked_send gk _ _ _ .send _).trans (if_pos rfl)
       have hsome: ∃cc∈φ.cases,∃c z,cc=rcase c z/\partners (gs.setIfInBounds 0 ph) c true≠ []:=by
        refine⟨rcase (φ.chan (j-φ.n0)) φ.z0,Array.mem_of_getElem? (φ.ix_get (j-φ.n0)),_,_,rfl,fun e2=> ?_⟩;have:(j,0)∈partners (gs.setIfInBounds 0 ph) (φ.chan (j-φ.n0)) true:=mem_partners.2 ⟨gj,by rw[Array.getElem?_setIfInBounds_ne (Ne.symm hkj.ne0)];exact hgj,by rw[hofs];simp⟩;rw[e2] at this;cases this
       obtain⟨ki,c,z,j2,kk,s,r,d2,hci,hpart,hcc,hrunT⟩:=Wh (P:=P) (sl:=sl') (i:=0) hi (show stepG P (0==0) x.2.1 (u.at d)=_ from hcm) (φ.cases_open hI.chans) hsome;obtain⟨g2,hg2,hk2⟩:=mem_partners.1 hpart
       rcases getElem?_stand gs 0 j2 g2 hg2 with ⟨_,e2⟩ |⟨hj20,hg2'⟩
       ·rw[e2,offersAt_ph] at hk2;cases hk2
       obtain⟨hkid2,hl2,hch2,hof2,gk2,m2,rfl,hq2⟩:=hI.offers hg2' (by intro e3;rw[e3] at hk2;cases hk2);rw[hof2] at hk2;have hkk:kk=0:=by simpa using hk2
       subst hkk;subst hch2;have hkix:=φ.ix_of hci;obtain⟨s0,hs0⟩:=DL hI.chans (j2-φ.n0);have hsr:s=s0/\r=s0:=by
        have hcc':u.heap[φ.chan (j2-φ.n0)]? =_:=hcc;rw[hs0] at hcc';simp only[oI,Obj.chan.injEq,true_and,and_true] at hcc';exact⟨hcc'.1.symm,hcc'.2.symm⟩
       obtain⟨rfl,rfl⟩:=hsr;have hfp:finishPartner P (gs.setIfInBounds 0 ph) j2 0 undef=(gs.setIfInBounds 0 ph).setIfInBounds j2 (Go.Conc.served gk2 undef):=by
        apply Array.ext_getElem?;intro a;unfold finishPartner;rw[Array.getElem?_modify];by_cases ea:j2=a
        ·subst ea;rw[if_pos rfl,hg2,Array.getElem?_setIfInBounds_self_of_lt (aS.1 hg2).1];rfl
        ·rw[if_neg ea,Array.getElem?_setIfInBounds_ne ea]
       have hov:offeredValue (gs.setIfInBounds 0 ph) j2 0=φ.val (j2-φ.n0):=by
        unfold offeredValue;rw[hg2];rfl
       rw[hfp,hov,sF,Array.empty_append,hkix,φ.ix_cast] at hrunT;refine Done.step (hst.trans hrunT) ?_;have hsz0:j2<gs.size:=(aS.1 hg2').1;have hh:j2-φ.n0<φ.Hn:=by have:=hkid2.1;have:=hkid2.2.1;omega
       have hnext:=hK (j2-φ.n0) hh ((u.at d2).setChan (φ.chan (j2-φ.n0)) 0 #[] false (r+1) (r+1) false) (by
        rw[p2];refine DR (u:=u.at d) (fun b hb=> ?_) d2 0 #[] false (r+1) (r+1) false;obtain⟨_,b1,b2⟩:=hI.low 0 b (.inl rfl) hb;unfold Ph.chan;split<;>assumption) hkid2.2.2
       have hI':=hI.hand hkid2 hkH d2 r hs0 (gM:=g₂.finishComm P φ.cases .select (if φ.isA (j2-φ.n0) then 0 else 1) (φ.val (j2-φ.n0)) true) (gK:=Go.Conc.served gk2 undef) (m:=m2)
        (gs':=((gs.setIfInBounds 0 ph).setIfInBounds j2 (Go.Conc.served gk2 undef)).setIfInBounds 0 (g₂.finishComm P φ.cases .select (if φ.isA (j2-φ.n0) then 0 else 1) (φ.val (j2-φ.n0)) true))
        (by simp) (by rw[Array.getElem?_setIfInBounds_self_of_lt (by simpa using hI.pos)]) (by rw[Array.getElem?_setIfInBounds_ne (Ne.symm hj20),Array.getElem?_setIfInBounds_self_of_lt (by simpa using hsz0)])
        (fun a a0 ai=>by rw[Array.getElem?_setIfInBounds_ne (Ne.symm a0),Array.getElem?_setIfInBounds_ne (Ne.symm ai),Array.getElem?_setIfInBounds_ne (Ne.symm a0)]) hnext.running hq2
        (o1:={g:=j2,fn:=((gs.setIfInBounds 0 ph).getD j2 default).frame.fn,pos:=((gs.setIfInBounds 0 ph).getD j2 default).frame.place,act:= .send (φ.chan (j2-φ.n0)) r}) (o2:={g:=0,fn:=g₂.frame.fn,pos:=g₂.frame.place,act:= .recv (φ.chan (j2-φ.n0)) r 0})
        (o3:={g:=j2,fn:=((gs.setIfInBounds 0 ph).getD j2 default).frame.fn,pos:=((gs.setIfInBounds 0 ph).getD j2 default).frame.place,act:= .sendDone (φ.chan (j2-φ.n0)) r}) (o4:={g:=0,fn:=g₂.frame.fn,pos:=g₂.frame.place,act:= .recvDone (φ.chan (j2-φ.n0)) r}) ⟨rfl,rfl⟩ ⟨rfl,rfl⟩ ⟨rfl,rfl⟩ ⟨rfl,rfl⟩
       exact IH n rfl k _ _ _ _ _ _ _ _ hI' (PL.hand hT (by rw[p2] at hnext;exact hnext))
      ·have hno: ∀i g,Kid φ k D i->l[i]? =some none->gs[i]? =some g->False:=fun i g a b c=>hany ⟨i,g,c,a,b⟩;have hnp: ∀c,partners (gs.setIfInBounds 0 ph) c true= []:=fun c=>partners_nil fun a b hab=>by
        rcases getElem?_stand gs 0 a b hab with ⟨_,e2⟩ |⟨_,hb⟩
        ·rw[e2,offersAt_ph]
        ·exact Classical.byContradiction fun hne=>by
          obtain⟨q1,q2,_⟩:=hI.offers hb hne;exact hno a b q1 q2 hb
       have hrunT:=crowd_waits (P:=P) (sl:=sl') (i:=0) hi (show stepG P (0==0) x.2.1 (u.at d)=_ from hcm) (fun cc hcc=>by
        obtain⟨c,z,s,r,rfl,h2⟩:=φ.cases_open (u:=u.at d) hI.chans cc hcc;exact ways_recv_none h2 (hnp c))
       rw[sF] at hrunT;refine Done.step (hst.trans hrunT) ?_;rw[Array.append_empty];refine IHc (cnt (l.set 0 none)) (hc▸DT ho) (l.set 0 none) rfl _ _ _ _ _ _ (hI.parkMain ho hkH d (fun m hm u' hu hD=> ?_) hno) fun j y hj=> ?_
       ·have:=hK m hm u' (hoff0 u' hu) hD;rw[p2] at this;exact this
       ·have e0:j≠0:=fun e0=>by subst e0;rw[List.getElem?_set_self (by rw[hI.len];exact hI.pos)] at hj;cases hj
        rw[List.getElem?_set_ne (Ne.symm e0)] at hj;exact hT j y hj
   ·have hi0:(i==0)=false:=by simpa using e
    have hkid:=hI.kidp i x e ho;rw[AL e] at hs;obtain⟨g₂,m,hcm,hq⟩:=hs;obtain⟨s0,hs0⟩:=DL hI.chans (i-φ.n0);obtain⟨o0,ho0⟩:=hI.some_of_lt hI.pos;have hstand: ∀c a b,a≠0->(gs.setIfInBounds i ph)[a]? =some b->offersAt b c false= []:=fun c a b a0 hab=>by
     rcases getElem?_stand gs i a b hab with ⟨_,e2⟩ |⟨_,hb⟩
     ·rw[e2,offersAt_ph]
     ·exact hI.offersRecv hb a0
    cases o0 with
    |some y=>
     obtain⟨y1,_,_,y4⟩:=hI.priv 0 y ho0;have hrunT:=crowd_waits (P:=P) (sl:=sl') (i:=i) hi (by rw[hi0];exact hcm) (fun cc hcc=>by
      simp only[Ph.send,List.mem_toArray,List.mem_cons,List.not_mem_nil,or_false] at hcc;subst hcc;refine ways_send_none (w₁:=u.at d) hs0 (by simp) (partners_nil fun a b hab=> ?_);by_cases a0:a=0
      ·subst a0;rw[Array.getElem?_setIfInBounds_ne e,y1,oI] at hab;subst hab;exact offersAt_of_not_blocked (by rw[y4];simp) _ _
      ·exact hstand _ a b a0 hab)
     rw[sF] at hrunT;refine Done.step (hst.trans hrunT) ?_;rw[Array.append_empty];refine IHc (cnt (l.set i none)) (hc▸DT ho) (l.set i none) rfl _ _ _ _ _ _ (hI.parkKid e ho ho0 d hq) fun j y hj=> ?_;have ej:j≠i:=fun e0=>by subst e0;rw[List.getElem?_set_self (by rw[hI.len];exact hlt)] at hj;cases hj
     rw[List.getElem?_set_ne (Ne.symm ej)] at hj;exact hT j y hj
    |none=>
     obtain⟨gm,n',hgm,rfl,hkH,hnext,_⟩:=hI.main ho0;have hh:i-φ.n0<φ.Hn:=by have:=hkid.1;have:=hkid.2.1;omega
     have hoff':Off (H 0) u ((u.at d).setChan (φ.chan (i-φ.n0)) 0 #[] false (s0+1) (s0+1) false):=by
      refine DR (fun b hb=> ?_) d 0 #[] false (s0+1) (s0+1) false;obtain⟨_,b1,b2⟩:=hI.low 0 b (.inl rfl) hb;unfold Ph.chan;split<;>assumption
     have hn:=hnext (i-φ.n0) hh hkid.2.2 _ hoff';have hrunT:=crowd_send_meets_sel (P:=P) (sl:=sl') (i:=i) (j:=0) (k:=φ.ix (i-φ.n0)) (gj:=gm) (cs:=φ.cases) (shj:= .select) hi (by rw[hi0];exact hcm) (show (u.at d).heap[φ.chan (i-φ.n0)]? =some (.chan 0 #[] false s0 s0 false) from hs0) (Ne.symm e) hgm (φ.ix_get _)
      (by
       rw[partners_one (j:=0) (g:=parked gm φ.cases .select) (by rw[Array.getElem?_setIfInBounds_ne e];exact hgm) fun a b a0 hab=>hstand _ a b a0 hab,offersAt_parked_at (φ.ix_get _) fun a cc ha hcc=>φ.ix_other _ a cc ha hcc];rfl)
     rw[sF,Array.empty_append,φ.ix_cast] at hrunT;refine Done.step (hst.trans hrunT) ?_;have hI':=hI.hand hkid hkH d s0 hs0 (gM:=gm.finishComm P φ.cases .select (if φ.isA (i-φ.n0) then 0 else 1) (φ.val (i-φ.n0)) true) (gK:=Go.Conc.served g₂ undef) (m:=m)
      (gs':=(gs.setIfInBounds 0 (gm.finishComm P φ.cases .select (if φ.isA (i-φ.n0) then 0 else 1) (φ.val (i-φ.n0)) true)).setIfInBounds i (Go.Conc.served g₂ undef))
      (by simp) (by rw[Array.getElem?_setIfInBounds_ne e,Array.getElem?_setIfInBounds_self_of_lt hI.pos]) (by rw[Array.getElem?_setIfInBounds_self_of_lt (by simpa using hlt)])
      (fun a a0 ai=>by rw[Array.getElem?_setIfInBounds_ne (Ne.symm ai),Array.getElem?_setIfInBounds_ne (Ne.symm a0)]) hn.running hq
      (o1:={g:=i,fn:=g₂.frame.fn,pos:=g₂.frame.place,act:= .send (φ.chan (i-φ.n0)) s0}) (o2:={g:=0,fn:=gm.frame.fn,pos:=gm.frame.place,act:= .recv (φ.chan (i-φ.n0)) s0 0})
      (o3:={g:=i,fn:=g₂.frame.fn,pos:=g₂.frame.place,act:= .sendDone (φ.chan (i-φ.n0)) s0}) (o4:={g:=0,fn:=gm.frame.fn,pos:=gm.frame.place,act:= .recvDone (φ.chan (i-φ.n0)) s0}) ⟨rfl,rfl⟩ ⟨rfl,rfl⟩ ⟨rfl,rfl⟩ ⟨rfl,rfl⟩
     exact IH n' rfl k _ _ _ _ _ _ _ _ hI' (PL.hand hT hn)
  ·obtain⟨y,⟨es,hgo,hdoes,hes⟩,hTy,hΦ⟩:=hstep (u.at d) hoff;have hdoes':Does (H i) y.1 (u.at d) y.2.2:=by rw[<-p2];exact hdoes
   have hI':=hI.go ho d x.2.1.frame.fn x.2.1.frame.place hdoes' hes hTy.running;have hrunT:=runT_crowd_go (P:=P) (sl:=sl') (i:=i) hi hgo;rw[hI.woken hI'.chans] at hrunT;exact Done.step (hst.trans hrunT) (hΦ ((JY ho).trans hc) _ _ _ _ _ _ hI')
theorem phase: ∀(n k:Nat) (D:List Nat) (l:List (Option X)) (gs:Array gO) (u:wD) (sl:Option (Nat×Nat)) (t:Trace) (q:Nat->Nat) (H:Nat->Hold),Inv P φ Fin n k D l gs u t q H->PL P φ Fin n k D l->Done P φ Fin gs u sl t:=by
 intro n
 induction n with
 |zero=>exact fun k D l=>Ko 0 (fun n' h=>by cases h) k D _ l rfl
 |succ n ih=>exact fun k D l=>Ko (n+1) (fun n' h=>by cases h;exact ih) k D _ l rfl
end
end Go.Tp
namespace Go.Tp
open Go.Conc Go.RowKit
theorem Does.still (H:Hold) (u:wD):Does H H u u:=
 ⟨nR _,fun _ _ _=>rfl,fun _=>⟨.inl,fun h=>h.elim id fun x=>absurd x.2 (Nat.not_lt.2 x.1)⟩,rfl,rfl,rfl,rfl⟩
def Hold.more (H:Hold) (u u':wD):Hold:=⟨fun b=>H.mine b\/(u.heap.size<=b/\b<u'.heap.size),H.sh⟩
theorem Does.alloc (H:Hold) (u:wD) (o:Obj):Does H (H.more u (u.alloc o)) u (u.alloc o):=
 ⟨by simp,fun _ hb _=>Below.heap_alloc u o _ hb,fun _=>Iff.rfl,rfl,rfl,rfl,rfl⟩
theorem qy (u:wD) (a:Addr) (v:vL) {b:Nat} (h:b≠a.block):(u.setCell a v).heap[b]? =u.heap[b]? :=Below.heap_setCell u a v b h
theorem Does.set (H:Hold) (u:wD) (a:Addr) (v:vL) (h:H.mine a.block):Does H H u (u.setCell a v):=by
 refine⟨by simp,fun b _ hm=>qy u a v fun e=>hm (e▸h),fun b=>⟨.inl,fun x=>x.elim id fun y=> ?_⟩,rfl,rfl,rfl,rfl⟩;have:=y.2;simp only[World.size_setCell] at this;exact absurd this (Nat.not_lt.2 y.1)
theorem Does.trans {H H' H'':Hold} {u u' u'':wD} (h:Does H H' u u') (h':Does H' H'' u' u''):Does H H'' u u'':=by
 refine⟨Nat.le_trans h.size h'.size,fun b hb hm=> ?_,fun b=> ?_,h'.sh.trans h.sh,h'.same.1.trans h.same.1,h'.same.2.1.trans h.same.2.1,h'.same.2.2.trans h.same.2.2⟩
 ·rw[h'.keep b (Nat.lt_of_lt_of_le hb h.size) fun hx=>((h.mine b).1 hx).elim hm fun y=>absurd hb (Nat.not_lt.2 y.1),h.keep b hb hm]
 ·rw[h'.mine,h.mine];have:=h.size;have:=h'.size;constructor
  ·rintro((x |x) |x)
   ·exact .inl x
   ·exact .inr (by omega)
   ·exact .inr (by omega)
  ·rintro(x |x)
   ·exact .inl (.inl x)
   ·by_cases hb:b<u'.heap.size
    ·exact .inl (.inr ⟨x.1,hb⟩)
    ·exact .inr ⟨by omega,x.2⟩
section
variable {P:Program} {mn:Bool} {Stop:Hold->gO->wD->Prop} {H:Hold} {u:wD} {b:Frame} {a:Act} {k:List Item} {cs:List Frame} {ops:Array Oper}
theorem kM {fr fr':Frame} (hg: ∀u',stepG P mn (G fr cs) u'= .go (G fr' cs) u' #[]) (h:MV P mn Stop (H,G fr' cs,u)):MV P mn Stop (H,G fr cs,u):=
 MV.step' rfl fun u' ho=>⟨(H,G fr' cs,u'),h.rely ho,#[],hg u',.still H u',by simp⟩
theorem dZ {x y:Code} (h:MV P mn Stop (H,G (b.at a (.code x:: .code y::k)) cs,u)):MV P mn Stop (H,G (b.at a (.code (.seq x y)::k)) cs,u):=
 kM (fun u'=>by simp[G,stepG,stepG.exec,Frame.at]) h
theorem Kq (h:MV P mn Stop (H,G (b.at a k) cs,u)):MV P mn Stop (H,G (b.at a (.code .skip::k)) cs,u):=kM (fun u'=>by simp[G,stepG,stepG.exec,Frame.at]) h
theorem sG {i:Nat} (h:MV P mn Stop (H,G (b.at a k) cs,u)):MV P mn Stop (H,G (b.at a (.inBlock i::k)) cs,u):=kM (fun u'=>by simp[G,stepG,stepG.exec,Frame.at]) h
theorem qA {i:Nat} {c:Code} (h:MV P mn Stop (H,G (b.at a (.code c:: .inBlock i::k)) cs,u)):MV P mn Stop (H,G (b.at a (.code (.block i c)::k)) cs,u):=kM (fun u'=>by simp[G,stepG,stepG.exec,Frame.at]) h
theorem Kr {c:Code} (h:MV P mn Stop (H,G (b.at a (.code c:: .inLoop c::k)) cs,u)):MV P mn Stop (H,G (b.at a (.code (.loop c)::k)) cs,u):=kM (fun u'=>by simp[G,stepG,stepG.exec,Frame.at]) h
theorem DU {c:Code} (h:MV P mn Stop (H,G (b.at a (.code c:: .inLoop c::k)) cs,u)):MV P mn Stop (H,G (b.at a (.inLoop c::k)) cs,u):=kM (fun u'=>by simp[G,stepG,stepG.exec,Frame.at]) h
theorem Kt {i:Nat} {k':List Item} (he:exitTo i k=some k') (h:MV P mn Stop (H,G (b.at a k') cs,u)):MV P mn Stop (H,G (b.at a (.code (.exit i)::k)) cs,u):=kM (fun u'=>by simp[G,stepG,stepG.exec,Frame.at,he]) h
theorem oC {c:Operand} {x y:Code} (t:Bool) (hc:a.eval c= .bool t) (h:MV P mn Stop (H,G (b.at a (.code (if t then x else y)::k)) cs,u)):MV P mn Stop (H,G (b.at a (.code (.cond c x y)::k)) cs,u):=
 kM (fun u'=>by
  have e:=Frame.eval_at' b a (.code (.cond c x y)::k);simp only[Frame.at] at e;simp[G,stepG,stepG.exec,Frame.at,e,hc]) h
theorem fU {i:Nat} (h:MV P mn Stop (H,G (b.at a (.inRegion ops (List.range ops.size)::k)) cs,u)):MV P mn Stop (H,G (b.at a (.code (.region i ops false)::k)) cs,u):=kM (fun u'=>by simp[G,stepG,stepG.exec,Frame.at]) h
theorem fG (h:MV P mn Stop (H,G (b.at a k) cs,u)):MV P mn Stop (H,G (b.at a (.inRegion ops []::k)) cs,u):=kM (fun u'=>by simp[G,stepG,stepG.exec,Frame.at]) h
theorem Ku {i:Nat} {rest:List Nat} {o:Oper} (ho:ops[i]? =some o) (hw:Region.wanted o (yielded ops a.tmps)=true) (hk:b.kind≠ .early)
  (h: ∀u',Off H u u'-> ∃v H1 u1,(execOp a.eval o).run P u'= .ok (.value v) u1/\Does H H1 u' u1/\(∀e∈listed P b.fn a o u',EvO H1 e)/\MV P mn Stop (H1,G (b.at (a.put o.dst v) (.inRegion ops rest::k)) cs,u1)):
  MV P mn Stop (H,G (b.at a (.inRegion ops (i::rest)::k)) cs,u):=
 MV.step' rfl fun u' ho'=>by
  obtain⟨v,H1,u1,hr,hd,he,hn⟩:=h u' ho';refine⟨(H1,_,u1),hn,listed P b.fn a o u', ?_,hd,he⟩;have hfin:(b.at a (.inRegion ops (i::rest)::k)).finish v=b.at (a.put o.dst v) (.inRegion ops rest::k):=by rw[Frame.finish_at,ho];rfl
  have hk':(b.kind==CallKind.early)=false:=by simpa using hk
  rw[stepG_oper ho hw,<-hfin];simp[stepG.apply,hr,G,Frame.at,hk',GStep.after,listed]
end
section
variable {P:Program} {mn:Bool} {Stop:Hold->gO->wD->Prop} {H:Hold} {u:wD} {b:Frame} {a:Act} {k:List Item} {cs:List Frame} {ops:Array Oper} {i:Nat} {rest:List Nat} {o:Oper}
theorem DV (ho:ops[i]? =some o) (hw:Region.wanted o (yielded ops a.tmps)=true) (hk:b.kind≠ .early) (v:vL)
  (hr: ∀u',Off H u u'->(execOp a.eval o).run P u'= .ok (.value v) u') (he: ∀u',Off H u u'-> ∀e∈(execOp a.eval o).events P u' #[],EvO H e)
  (h:MV P mn Stop (H,G (b.at (a.put o.dst v) (.inRegion ops rest::k)) cs,u)):MV P mn Stop (H,G (b.at a (.inRegion ops (i::rest)::k)) cs,u):=
 Ku ho hw hk fun u' ho'=>⟨v,H,u',hr u' ho',.still H u',fun e hm=>he u' ho' e (mem_listed hm),h.rely ho'⟩
theorem kN (ho:ops[i]? =some o) (hw:Region.wanted o (yielded ops a.tmps)=true) (hk:b.kind≠ .early) (v:vL)
  (hr: ∀u',(execOp a.eval o).run P u'= .ok (.value v) u') (he: ∀u',(execOp a.eval o).events P u' #[]= #[])
  (h:MV P mn Stop (H,G (b.at (a.put o.dst v) (.inRegion ops rest::k)) cs,u)):MV P mn Stop (H,G (b.at a (.inRegion ops (i::rest)::k)) cs,u):=
 DV ho hw hk v (fun u' _=>hr u') (fun u' _ e hm=>by rw[he] at hm;simp at hm) h
theorem Kv (ho:ops[i]? =some o) (hw:Region.wanted o (yielded ops a.tmps)=true) (hk:b.kind≠ .early) (v:Nat->vL) (x:Obj)
  (hr: ∀u',(execOp a.eval o).run P u'= .ok (.value (v u'.heap.size)) (u'.alloc x)) (he: ∀u',(execOp a.eval o).events P u' #[]= #[])
  (h: ∀u',Off H u u'->MV P mn Stop (H.more u' (u'.alloc x),G (b.at (a.put o.dst (v u'.heap.size)) (.inRegion ops rest::k)) cs,u'.alloc x)):MV P mn Stop (H,G (b.at a (.inRegion ops (i::rest)::k)) cs,u):=
 Ku ho hw hk fun u' ho'=>⟨_,_,_,hr u',.alloc H u' x,fun e hm=>by have:=mem_listed hm;rw[he] at this;simp at this,h u' ho'⟩
theorem Kw (ho:ops[i]? =some o) (hw:Region.wanted o (yielded ops a.tmps)=true) (hk:b.kind≠ .early)
  (h: ∀u',Off H u u'-> ∃H1 u1,(execOp a.eval o).run P u'= .ok .skip u1/\Does H H1 u' u1/\(∀e∈(execOp a.eval o).events P u' #[],EvO H1 e)/\MV P mn Stop (H1,G (b.at (a.put o.dst undef) (.inRegion ops rest::k)) cs,u1)):
  MV P mn Stop (H,G (b.at a (.inRegion ops (i::rest)::k)) cs,u):=
 MV.step' rfl fun u' ho'=>by
  obtain⟨H1,u1,hr,hd,he,hn⟩:=h u' ho';exact⟨(H1,_,u1),hn,_,stepG_none ho hw hk hr,hd,fun e hm=>he e (mem_listed hm)⟩
theorem Ws {φ:Ph} {h:Nat} {K:X->Prop} (hS:Stop=AtGo P φ h K) (ho:ops[i]? =some o) (hw:Region.wanted o (yielded ops a.tmps)=true) (hk:b.kind≠ .early) (d:Deferred) {f:Fn} {c:Array vL} (hd:d.target= .fn f c)
  (hr: ∀u',(execOp a.eval o).run P u'= .ok (.spawn d) u') (he: ∀u',(execOp a.eval o).events P u' #[]= #[])
  (hkid: ∀u',Off H u u'->MV P false (AtSend P φ h) (⟨fun _=>False,fun b=>H.mine b\/H.sh b⟩,born P d,u'))
  (hn: ∀u',Off H u u'->K (⟨fun _=>False,fun b=>H.mine b\/H.sh b⟩,G (b.at (a.put o.dst undef) (.inRegion ops rest::k)) cs,u')):
  MV P true Stop (H,G (b.at a (.inRegion ops (i::rest)::k)) cs,u):=by
 subst hS;refine .stop rfl fun u' ho'=>⟨_,_,(stepG_spawn ho hw hk (hr u') hd).trans ?_,hkid u' ho',hn u' ho'⟩;rw[listed_nil (he u')]
theorem Wu {φ:Ph} {K:Nat->X->Prop} (hS:Stop=AA P φ K) (ho:ops[i]? =some o) (hw:Region.wanted o (yielded ops a.tmps)=true) (hk:b.kind≠ .early)
  (hr: ∀u',(execOp a.eval o).run P u'= .ok (.comm φ.cases true .select) u') (he: ∀u',(execOp a.eval o).events P u' #[]= #[])
  (hn: ∀h,h<φ.Hn-> ∀u',Off H u u'->K h (H,G (b.at (a.put o.dst (commResult φ.cases .select (if φ.isA h then 0 else 1) (φ.val h) true)) (.inRegion ops rest::k)) cs,u')):
  MV P true Stop (H,G (b.at a (.inRegion ops (i::rest)::k)) cs,u):=by
 subst hS;refine .stop rfl fun u' ho'=>⟨G (b.at a (.inRegion ops (i::rest)::k)) cs, ?_,fun h hh u2 ho2=> ?_⟩
 ·rw[stepG_comm ho hw hk (hr u'),listed_nil (he u')]
 ·have hfin: ∀v,(b.at a (.inRegion ops (i::rest)::k)).finish v=b.at (a.put o.dst v) (.inRegion ops rest::k):=fun v=>by rw[Frame.finish_at,ho];rfl
  have:=hn h hh u2 (ho'.trans ho2);unfold Goroutine.finishComm G;dsimp only;rw[hfin];exact this
structure Put (a a':Act) (d:Nat) (v:vL):Prop where
 size:a'.tmps.size=a.tmps.size
 defers:a'.defers=a.defers
 same:a'.tmps[d]?.getD undef=v
 other: ∀j,j≠d->a'.tmps[j]?.getD undef=a.tmps[j]?.getD undef
theorem ev (a:Act) (i:Nat):a.eval (.tmp i)=a.tmps[i]?.getD undef:=by simp[Act.eval]
theorem kP (a:Act) {d:Nat} (v:vL) (hd:d<a.tmps.size):Put a (a.put (some d) v) d v:=
 ⟨by simp[Act.put],rfl,by rw[<-ev];exact Act.eval_put_same a d v hd,fun j hj=>by rw[<-ev,<-ev];exact Act.eval_put_ne a d j v (Ne.symm hj)⟩
theorem nJ {d:Nat} (ho:ops[i]? =some o) (hw:Region.wanted o (yielded ops a.tmps)=true) (hk:b.kind≠ .early) (hdst:o.dst=some d) (hd:d<a.tmps.size) (v:vL)
  (hr: ∀u',Off H u u'->(execOp a.eval o).run P u'= .ok (.value v) u') (he: ∀u',Off H u u'-> ∀e∈(execOp a.eval o).events P u' #[],EvO H e)
  (h: ∀a',Put a a' d v->MV P mn Stop (H,G (b.at a' (.inRegion ops rest::k)) cs,u)):MV P mn Stop (H,G (b.at a (.inRegion ops (i::rest)::k)) cs,u):=
 DV ho hw hk v hr he (by rw[hdst];exact h _ (kP a v hd))
theorem dB {d:Nat} (ho:ops[i]? =some o) (hw:Region.wanted o (yielded ops a.tmps)=true) (hk:b.kind≠ .early) (hdst:o.dst=some d) (hd:d<a.tmps.size) (v:vL)
  (hr: ∀u',(execOp a.eval o).run P u'= .ok (.value v) u') (he: ∀u',(execOp a.eval o).events P u' #[]= #[])
  (h: ∀a',Put a a' d v->MV P mn Stop (H,G (b.at a' (.inRegion ops rest::k)) cs,u)):MV P mn Stop (H,G (b.at a (.inRegion ops (i::rest)::k)) cs,u):=
 kN ho hw hk v hr he (by rw[hdst];exact h _ (kP a v hd))
theorem DW {d:Nat} (ho:ops[i]? =some o) (hw:Region.wanted o (yielded ops a.tmps)=true) (hk:b.kind≠ .early) (hdst:o.dst=some d) (hd:d<a.tmps.size) (v:Nat->vL) (x:Obj)
  (hr: ∀u',(execOp a.eval o).run P u'= .ok (.value (v u'.heap.size)) (u'.alloc x)) (he: ∀u',(execOp a.eval o).events P u' #[]= #[])
  (h: ∀u',Off H u u'-> ∀a',Put a a' d (v u'.heap.size)->MV P mn Stop (H.more u' (u'.alloc x),G (b.at a' (.inRegion ops rest::k)) cs,u'.alloc x)):MV P mn Stop (H,G (b.at a (.inRegion ops (i::rest)::k)) cs,u):=
 Kv ho hw hk v x hr he fun u' ho'=>by rw[hdst];exact h u' ho' _ (kP a _ hd)
theorem Wv {d:Nat} {φ:Ph} {K:Nat->X->Prop} (hS:Stop=AA P φ K) (ho:ops[i]? =some o) (hw:Region.wanted o (yielded ops a.tmps)=true) (hk:b.kind≠ .early) (hdst:o.dst=some d) (hd:d<a.tmps.size)
  (hr: ∀u',(execOp a.eval o).run P u'= .ok (.comm φ.cases true .select) u') (he: ∀u',(execOp a.eval o).events P u' #[]= #[])
  (hn: ∀h,h<φ.Hn-> ∀u',Off H u u'-> ∀a',Put a a' d (commResult φ.cases .select (if φ.isA h then 0 else 1) (φ.val h) true)->K h (H,G (b.at a' (.inRegion ops rest::k)) cs,u')):
  MV P true Stop (H,G (b.at a (.inRegion ops (i::rest)::k)) cs,u):=
 Wu hS ho hw hk hr he fun h hh u' ho'=>by rw[hdst];exact hn h hh u' ho' _ (kP a _ hd)
theorem AP (ho:ops[i]? =some o) (hw:Region.wanted o (yielded ops a.tmps)=true) (hk:b.kind≠ .early) (hdst:o.dst=none)
  (h: ∀u',Off H u u'-> ∃H1 u1,(execOp a.eval o).run P u'= .ok .skip u1/\Does H H1 u' u1/\(∀e∈(execOp a.eval o).events P u' #[],EvO H1 e)/\MV P mn Stop (H1,G (b.at a (.inRegion ops rest::k)) cs,u1)):
  MV P mn Stop (H,G (b.at a (.inRegion ops (i::rest)::k)) cs,u):=
 Kw ho hw hk fun u' ho'=>by rw[hdst];exact h u' ho'
theorem aY {u':wD} {n:Nat} {x:Obj} (ho:Off H u u') (hm:H.mine n\/H.sh n) (hc:u.heap[n]? =some x):u'.heap[n]? =some x:=by
 rw[ho.keep n (aS.1 hc).1 hm];exact hc
end
end Go.Tp
namespace Go.Proofs.YtfiiffnbggnkfaaDoor
open Go.RowKit Go.Rent
structure LdR (w:wD) (la pa:Option Addr) (B:Bk) (lc pc:Nat) (hours towns:vL) (f:Nat->Int) (wr:wD):Prop where
 below:bX w.heap.size w wr
 size:w.heap.size+3<=wr.heap.size
 b0:wr.cell? ⟨w.heap.size,0,none⟩=some hours
 b1:wr.cell? ⟨w.heap.size,1,none⟩=some towns
 b2:wr.cell? ⟨w.heap.size,2,none⟩=some (sL la B.links.length lc)
 b3:wr.cell? ⟨w.heap.size,3,none⟩=some (sL pa B.pairs.length pc)
 res: ∀j,j<6->(∃v,wr.cell? ⟨w.heap.size+1,j,none⟩=some v)/\wr.frozen? ⟨w.heap.size+1,j,none⟩=false
 out: ∀j,j<6->wr.cell? ⟨w.heap.size+2,j,none⟩=some (iN qi (f j))/\wr.frozen? ⟨w.heap.size+2,j,none⟩=false
theorem LdR.step {w:wD} {la pa:Option Addr} {B:Bk} {lc pc:Nat} {hours towns:vL} {f:Nat->Int} {wr w2:wD} (h:LdR w la pa B lc pc hours towns f wr) (hb:bX wr.heap.size wr w2):LdR w la pa B lc pc hours towns f w2:=by
 have hs:=h.size;obtain⟨hc,hf⟩:=ak hb;refine⟨h.below.trans (hb.mono (by omega)),Nat.le_trans h.size hb.size, ?_, ?_, ?_, ?_,fun j hj=> ?_,fun j hj=> ?_⟩
 ·rw[hc _ _ (by omega)];exact h.b0
 ·rw[hc _ _ (by omega)];exact h.b1
 ·rw[hc _ _ (by omega)];exact h.b2
 ·rw[hc _ _ (by omega)];exact h.b3
 ·rw[hc _ _ (by omega),hf _ _ (by omega)];exact h.res j hj
 ·rw[hc _ _ (by omega),hf _ _ (by omega)];exact h.out j hj
theorem LdR.set {w:wD} {la pa:Option Addr} {B:Bk} {lc pc:Nat} {hours towns:vL} {f:Nat->Int} {wr:wD} (h:LdR w la pa B lc pc hours towns f wr) {i:Nat} (hi:i<6) (v:Int):LdR w la pa B lc pc hours towns (fup f i v) (wr.setCell ⟨w.heap.size+2,i,none⟩ (iN qi v)):=by
 have hs:=h.size;have hne: ∀b o,b≠w.heap.size+2->(wr.setCell ⟨w.heap.size+2,i,none⟩ (iN qi v)).cell? ⟨b,o,none⟩=wr.cell? ⟨b,o,none⟩:=fun b o hb=>wO _ _ _ _ (by intro e;cases e;exact hb rfl);refine⟨h.below.trans ((bR _ _).setCell (by simp) _),by simpa using h.size, ?_, ?_, ?_, ?_,fun j hj=> ?_,fun j hj=> ?_⟩
 ·rw[hne _ _ (by omega)];exact h.b0
 ·rw[hne _ _ (by omega)];exact h.b1
 ·rw[hne _ _ (by omega)];exact h.b2
 ·rw[hne _ _ (by omega)];exact h.b3
 ·rw[hne _ _ (by omega),World.frozen?_setCell];exact h.res j hj
 ·rw[World.frozen?_setCell];refine⟨?_,(h.out j hj).2⟩;by_cases e:j=i
  ·subst e;rw[BZ];exact World.cell?_setCell_same _ _ _ (h.out j hj).1
  ·rw[dQ f v e,wO _ _ _ _ (by intro e';cases e';exact e rfl)];exact(h.out j hj).1
theorem Wx (V:BkV) (B:Bk) (hB:B.Fine) (tb tofs tcap:Nat) (T c:Nat->Int) (p1 p2 p3:vL) (w:wD) (hat:bT w V B)
  (hT: ∀k,k<B.links.length->w.cell? ⟨tb,tofs+k,none⟩=some (iN qi (T k))) (hT0: ∀k,0<=T k) (hc: ∀i,i<B.pairs.length->0<=c i/\c i<=5)
  (hcl: ∀(i:Nat) (w1:wD),i<B.pairs.length->bX w.heap.size w w1->Calls Tryd.prog 67 #[iN qi (i:Int),p1,p2,p3] w1 fun e w'=>e= .returned (iN qi (c i))/\bX w1.heap.size w1 w'):
  Calls Tryd.prog 54 #[V.val B,sL (some ⟨tb,tofs,none⟩) B.links.length tcap,.func (.func 67) #[] #[p1,p2,p3]] w
   fun e w'=>e= .returned (.agg #[iN qi (B.load T c 0),iN qi (B.load T c 1),iN qi (B.load T c 2),iN qi (B.load T c 3),iN qi (B.load T c 4),iN qi (B.load T c 5)])/\bX w.heap.size w w':=by
 obtain⟨ta,la,pa,tc,lc,pc⟩:=V;have hl:=hB.links;have ht:=hB.towns;have hp:=hB.pairs;unfold Bk.spokes at hl;go_enter Tryd.func54,Tryd.ntmps54
 go_wp2_with fail
 go_loopw [16] (fun i wr=> ∃k:Nat,k<=B.pairs.length/\i= iN qi (k:Int)/\LdR w la pa B lc pc (iN qi B.hours) (sL ta B.towns.length tc) (B.loadTo T c k) wr) (fun i _=>B.pairs.length-(intOf i).toNat)
 case atStart=>
  refine⟨0,Nat.zero_le _,rfl,⟨((((bR _ _).alloc (nR _) _).alloc (by simp) _).alloc (by simp;omega) _),by simp,by go_simp,by go_simp,by go_simp,by go_simp,fun j hj=> ?_,fun j hj=> ?_⟩⟩
  ·match j,hj with
   | 0,_ | 1,_ | 2,_ | 3,_ | 4,_ | 5,_=>exact⟨⟨_,by go_simp;rfl⟩,by go_simp⟩
  ·match j,hj with
   | 0,_ | 1,_ | 2,_ | 3,_ | 4,_ | 5,_=>exact⟨by go_simp;rfl,by go_simp⟩
 case round=>
  obtain⟨k,hk,rfl,hR⟩:=hrel;have hy3:=hR.b3;by_cases hlt:k<B.pairs.length
  ·have hL:B.pairs[k]? =some B.pairs[k]:=List.getElem?_eq_getElem hlt;obtain⟨he1,he2,he3⟩:=hB.ends k hlt;have hpo:B.pone k=B.pairs[k].one:=by unfold Bk.pone;rw[hL];rfl
   have hpt:B.ptwo k=B.pairs[k].two:=by unfold Bk.ptwo;rw[hL];rfl
   obtain⟨pb,po,sa,sc,g1,g2,g3,g4,_⟩:=(hat.below hR.below (nR _)).pairs _ _ hL;simp only at g1;subst g1;rw[<-hpo] at g2;rw[<-hpt] at g3;generalize B.pairs[k].calls.length=cn at g4;have hs:=hR.size
   go_wp2_with fail
   refine(hcl k _ hlt (hR.below.trans (((bR _ _).alloc (nR _) _).mono (by omega)))).mono ?_;rintro e w2 ⟨rfl,hb2⟩;have hx0:w2.cell? ⟨wr.heap.size,0,none⟩=some (iN qi (B.pone k)):=by rw[(ak hb2).1 _ _ (by simp)];go_simp
   have hx1:w2.cell? ⟨wr.heap.size,1,none⟩=some (iN qi (B.ptwo k)):=by rw[(ak hb2).1 _ _ (by simp)];go_simp
   have hs2:wr.heap.size+1<=w2.heap.size:=by have:=hb2.size;simpa using this
   have hR2:=hR.step (((bR _ _).alloc (nR _) _).trans (hb2.mono (by simp)));have hf:B.loadTo T c (k+1)=B.go T (c k) (B.pone k) (B.ptwo k) (B.loadTo T c k):=rfl;have hfb:=vJ B hB T c hT0 hc k (by omega);obtain⟨hc0,hc1⟩:=hc k hlt;generalize B.loadTo T c k=f at *;generalize B.pone k=a at *;generalize B.ptwo k=b at *;generalize c k=n at *;have Hf:=lH hf;have Hfb:=lH hfb;have HT:=lH hT;have HR2:=lH hR2;clear hf hfb hT hR2 hR hb2 g2 g3 g4 hL hpo hpt hcl hy3;have hz0:w.heap.size<w2.heap.size:=by omega
   have hz1:w.heap.size+1<w2.heap.size:=by omega
   have hz2:w.heap.size+2<w2.heap.size:=by omega
   have hb6:b.toNat-1<6:=by omega
   have hbt:(b-1).toNat=b.toNat-1:=by omega
   have Hbt:=lH hbt;clear hbt;obtain⟨hbo1,hbo2⟩:w2.cell? ⟨w.heap.size+1+1,b.toNat-1,none⟩=some (iN qi (f (b.toNat-1)))/\w2.frozen? ⟨w.heap.size+1+1,b.toNat-1,none⟩=false:=HR2.out.out (b.toNat-1) hb6;obtain⟨hbb0,hbb1⟩:0<=f (b.toNat-1)/\f (b.toNat-1)<=30:=by have:=Hfb.out (b.toNat-1);omega
   by_cases ha:a=0
   ·subst ha;go_wp2;go_roundw
    case rel=>exact⟨k+1,by omega,by go_num,by
     rw[Hf.out];unfold Bk.go;rw[if_pos rfl,Hbt.out];exact HR2.out.set hb6 _⟩
    case measure=>simp[intOf];omega
   ·have ha1:1<=a:=by omega
    have hx10:=HR2.out.b0;have hx11:=HR2.out.b1;have hx12:=HR2.out.b2;have hx13:=HR2.out.b3;have hBat:bT w2 ⟨ta,la,some ⟨pb,po,none⟩,tc,lc,pc⟩ B:=hat.below HR2.out.below (nR _);have HBat:=lH hBat;clear hBat hat
    go_wp2_with fail
    refine(vM ⟨ta,la,some ⟨pb,po,none⟩,tc,lc,pc⟩ B hB a b _ HBat.out).mono ?_;rintro e w3 ⟨rfl,hb3⟩;have hR3:=HR2.out.step hb3;have hy0:w3.cell? ⟨wr.heap.size,0,none⟩=some (iN qi a):=by rw[(ak hb3).1 _ _ (by omega)];exact hx0
    have hy1:w3.cell? ⟨wr.heap.size,1,none⟩=some (iN qi b):=by rw[(ak hb3).1 _ _ (by omega)];exact hx1
    have hs3:=hb3.size;clear hx10 hx11 hx12 hx13 hbo1 hbo2 hx0 hx1 hb3 HBat HR2;have HR3:=lH hR3;clear hR3;have ha6:a.toNat-1<6:=by omega
    have hat1:(a-1).toNat=a.toNat-1:=by omega
    have Hat:=lH hat1;clear hat1;obtain⟨hbo1,hbo2⟩:w3.cell? ⟨w.heap.size+1+1,b.toNat-1,none⟩=some (iN qi (f (b.toNat-1)))/\w3.frozen? ⟨w.heap.size+1+1,b.toNat-1,none⟩=false:=HR3.out.out (b.toNat-1) hb6;obtain⟨hao1,hao2⟩:w3.cell? ⟨w.heap.size+1+1,a.toNat-1,none⟩=some (iN qi (f (a.toNat-1)))/\w3.frozen? ⟨w.heap.size+1+1,a.toNat-1,none⟩=false:=HR3.out.out (a.toNat-1) ha6;obtain⟨haa0,haa1⟩:0<=f (a.toNat-1)/\f (a.toNat-1)<=30:=by have:=Hfb.out (a.toNat-1);omega
    have hab: ¬a.toNat-1=b.toNat-1:=by omega
    have hba: ¬b.toNat-1=a.toNat-1:=by omega
    have hdb:=pF B hB a b;unfold Bk.go at Hf;rw[if_neg ha] at Hf;unfold Bk.spokes at hdb;generalize B.direct a b=dv at *
    rcases hdb with hdv |⟨hd0,hd1⟩
    ·subst hdv
     go_wp2_with fail
     go_roundw
     case rel=>exact⟨k+1,by omega,by go_num,by
      rw[Hf.out,Hbt.out,Hat.out,if_neg (by decide),if_neg (by decide),dQ _ _ hba,Int.sub_zero];exact(HR3.out.set ha6 _).set hb6 _⟩
     case measure=>simp[intOf];omega
    ·obtain⟨kd,rfl⟩:=Int.eq_ofNat_of_zero_le (show 0<=dv by omega);have hkd6:kd<6:=by omega
     have hka: ¬kd=a.toNat-1:=by omega
     have hkb: ¬kd=b.toNat-1:=by omega
     have hak: ¬a.toNat-1=kd:=by omega
     have hbk: ¬b.toNat-1=kd:=by omega
     obtain⟨hko1,hko2⟩:w3.cell? ⟨w.heap.size+1+1,kd,none⟩=some (iN qi (f kd))/\w3.frozen? ⟨w.heap.size+1+1,kd,none⟩=false:=HR3.out.out kd hkd6;have htk:w3.cell? ⟨tb,tofs+kd,none⟩=some (iN qi (T kd)):=aoF HR3.out.below (HT.out kd (by omega)) (nR _);have hTk0:=hT0 kd;by_cases hmin:T kd<n
     ·go_wp2_with fail
      go_roundw
      case rel=>exact⟨k+1,by omega,by go_num,by
       rw[Hf.out,Hbt.out,Hat.out,if_pos (by omega),if_pos (by omega),Int.toNat_natCast,dQ _ _ hba,dQ _ _ hak,dQ _ _ hbk,show min n (T kd)=T kd by omega];exact((HR3.out.set hkd6 _).set ha6 _).set hb6 _⟩
      case measure=>simp[intOf];omega
     ·go_wp2_with fail
      go_roundw
      case rel=>exact⟨k+1,by omega,by go_num,by
       rw[Hf.out,Hbt.out,Hat.out,if_pos (by omega),if_pos (by omega),Int.toNat_natCast,dQ _ _ hba,dQ _ _ hak,dQ _ _ hbk,show min n (T kd)=n by omega,Int.sub_self,Int.add_zero,Int.add_zero];exact((HR3.out.set hkd6 _).set ha6 _).set hb6 _⟩
      case measure=>simp[intOf];omega
  ·have hke:k=B.pairs.length:=by omega
   have hbw:=hR.below;have hs:=hR.size;have ho0:wr.cell? ⟨w.heap.size+1+1,0,none⟩=some (iN qi (B.loadTo T c k 0)):=(hR.out 0 (by omega)).1;obtain⟨⟨v0,hr0⟩,hq0⟩:=hR.res 0 (by omega);have ho1:wr.cell? ⟨w.heap.size+1+1,1,none⟩=some (iN qi (B.loadTo T c k 1)):=(hR.out 1 (by omega)).1;obtain⟨⟨v1,hr1⟩,hq1⟩:=hR.res 1 (by omega);have ho2:wr.cell? ⟨w.heap.size+1+1,2,none⟩=some (iN qi (B.loadTo T c k 2)):=(hR.out 2 (by omega)).1;obtain⟨⟨v2,hr2⟩,hq2⟩:=hR.res 2 (by omega);have ho3:wr.cell? ⟨w.heap.size+1+1,3,none⟩=some (iN qi (B.loadTo T c k 3)):=(hR.out 3 (by omega)).1;obtain⟨⟨v3,hr3⟩,hq3⟩:=hR.res 3 (by omega);have ho4:wr.cell? ⟨w.heap.size+1+1,4,none⟩=some (iN qi (B.loadTo T c k 4)):=(hR.out 4 (by omega)).1;obtain⟨⟨v4,hr4⟩,hq4⟩:=hR.res 4 (by omega);have ho5:wr.cell? ⟨w.heap.size+1+1,5,none⟩=some (iN qi (B.loadTo T c k 5)):=(hR.out 5 (by omega)).1;obtain⟨⟨v5,hr5⟩,hq5⟩:=hR.res 5 (by omega);have Hke:=lH hke;clear hke;have hN: ¬w.heap.size+1=w.heap.size+2:=by omega
   have hfin:B.load T c=B.loadTo T c k:=by rw[Hke.out];rfl
   have HF:=lH hfin;have Hbw:=lH hbw;clear hfin hbw hR hat hT hcl hc;generalize B.loadTo T c k=f at *;go_wp2;refine bodyPost_ret (v:= .agg #[iN qi (f 0),iN qi (f 1),iN qi (f 2),iN qi (f 3),iN qi (f 4),iN qi (f 5)]) (by simp[results,Tryd.results54,go_sem,hr0,hr1,hr2,hr3,hr4,hr5]) rfl ⟨by rw[HF.out], ?_⟩;exact Hbw.out.trans ((((((bR _ _).setCell (by simp) _).setCell (by simp) _).setCell (by simp) _).setCell (by simp) _).setCell (by simp) _ |>.setCell (by simp) _)
structure bK (w:wD) (tb tofs n:Nat) (T:Nat->Int):Prop where
 get: ∀k,k<n->w.cell? ⟨tb,tofs+k,none⟩=some (iN qi (T k))
 pos: ∀k,0<=T k
theorem bK.below {n':Nat} {w w':wD} {tb tofs n:Nat} {T:Nat->Int} (h:bK w tb tofs n T) (hb:bX n' w w') (hn:w.heap.size<=n'):bK w' tb tofs n T:=⟨fun k hk=>aoF hb (h.get k hk) hn,h.pos⟩
abbrev ldv (f:Nat->Int):vL:= .agg #[iN qi (f 0),iN qi (f 1),iN qi (f 2),iN qi (f 3),iN qi (f 4),iN qi (f 5)]
theorem c57 (most:Bool) (V:BkV) (B:Bk) (hB:B.Fine) (h:Nat) (tb tofs tcap:Nat) (T:Nat->Int) (w:wD) (hat:bT w V B) (hT:bK w tb tofs B.links.length T) (hh:(h:Int)<B.hours):
  Calls Tryd.prog 39 #[V.val B,iN qi (h:Int),sL (some ⟨tb,tofs,none⟩) B.links.length tcap,.agg #[.func (.func (vK most)) #[] #[]]] w
   fun e w'=>e= .returned (ldv (B.inn T most h))/\bX w.heap.size w w':=by
 obtain⟨ta,la,pa,tc,lc,pc⟩:=V;have Hat:=lH hat;have HT:=lH hT;clear hat hT;generalize hf:B.inn T most h=f;have Hf:=lH hf;clear hf;generalize hx:vK most=xf;have Hx:=lH hx;clear hx;go_enter Tryd.func39,Tryd.ntmps39
 go_wp2_with fail
 have hb4: ∀o1 o2 o3 o4:Obj,bX w.heap.size w ((((w.alloc o1).alloc o2).alloc o3).alloc o4):=fun o1 o2 o3 o4=>(((((bR _ _).alloc (nR _) _).alloc (by simp) _).alloc (by simp<;>omega) _).alloc (by simp<;>omega) _);refine(Wx ⟨ta,la,pa,tc,lc,pc⟩ B hB tb tofs tcap T (B.call most h) _ _ _ _ (Hat.out.below (hb4 _ _ _ _) (nR _)) (HT.out.below (hb4 _ _ _ _) (nR _)).get HT.out.pos (fun i _=>Gj B hB most h i) (fun i w1 hi hb=> ?_)).mono ?_
 ·have hbw:=(hb4 _ _ _ _).trans (hb.mono (by simp<;>omega));have hsz:=hb.size;refine(c93 most (i:Int) ⟨ta,la,pa,tc,lc,pc⟩ B hB h (w.heap.size+2) w.heap.size (w.heap.size+1) w1 (Hat.out.below hbw (nR _)) (by omega) (by omega) hh ?_ ?_ ?_).mono fun e w' h=>by simpa using h
  ·rw[Hx.out,(ak hb).1 _ _ (by simp)];go_simp
  ·rw[(ak hb).1 _ _ (by simp<;>omega)];go_simp
  ·rw[(ak hb).1 _ _ (by simp<;>omega)];go_simp
 ·rintro e w2 ⟨rfl,hb2⟩;have hff:B.load T (B.call most h)=f:=Hf.out;rw[hff];have hrr: ∀j,j<6->(∃v,w2.cell? ⟨w.heap.size+3,j,none⟩=some v)/\w2.frozen? ⟨w.heap.size+3,j,none⟩=false:=fun j hj=>by
   rw[(ak hb2).1 _ _ (by simp),(ak hb2).2 _ _ (by simp)]
   match j,hj with
   | 0,_ | 1,_ | 2,_ | 3,_ | 4,_ | 5,_=>exact⟨⟨_,by go_simp;rfl⟩,by go_simp⟩
  have hbw:=(hb4 _ _ _ _).trans (hb2.mono (by simp<;>omega));obtain⟨⟨v0,hr0⟩,hq0⟩:(∃v,w2.cell? ⟨w.heap.size+1+1+1,0,none⟩=some v)/\w2.frozen? ⟨w.heap.size+1+1+1,0,none⟩=false:=hrr 0 (by omega);obtain⟨⟨v1,hr1⟩,hq1⟩:(∃v,w2.cell? ⟨w.heap.size+1+1+1,1,none⟩=some v)/\w2.frozen? ⟨w.heap.size+1+1+1,1,none⟩=false:=hrr 1 (by omega);obtain⟨⟨v2,hr2⟩,hq2⟩:(∃v,w2.cell? ⟨w.heap.size+1+1+1,2,none⟩=some v)/\w2.frozen? ⟨w.heap.size+1+1+1,2,none⟩=false:=hrr 2 (by omega);obtain⟨⟨v3,hr3⟩,hq3⟩:(∃v,w2.cell? ⟨w.heap.size+1+1+1,3,none⟩=some v)/\w2.frozen? ⟨w.heap.size+1+1+1,3,none⟩=false:=hrr 3 (by omega);obtain⟨⟨v4,hr4⟩,hq4⟩:(∃v,w2.cell? ⟨w.heap.size+1+1+1,4,none⟩=some v)/\w2.frozen? ⟨w.heap.size+1+1+1,4,none⟩=false:=hrr 4 (by omega);obtain⟨⟨v5,hr5⟩,hq5⟩:(∃v,w2.cell? ⟨w.heap.size+1+1+1,5,none⟩=some v)/\w2.frozen? ⟨w.heap.size+1+1+1,5,none⟩=false:=hrr 5 (by omega);have Hbw:=lH hbw;clear hbw hrr hb2 hb4 hff;go_wp2;refine bodyPost_ret (v:=ldv f) (by simp[results,Tryd.results39,go_sem,hr0,hr1,hr2,hr3,hr4,hr5]) rfl ⟨rfl, ?_⟩;exact Hbw.out.trans ((((((bR _ _).setCell (by simp<;>omega) _).setCell (by simp<;>omega) _).setCell (by simp<;>omega) _).setCell (by simp<;>omega) _).setCell (by simp<;>omega) _ |>.setCell (by simp<;>omega) _)
theorem aV {n:Nat} {w w':wD} (h:bX n w w') (k:Nat):bX n w (w'.drewN k):=⟨h.os,h.tape,h.output,h.size,h.block⟩
theorem Wy {l T:Nat->Int} {m k:Nat} (hm:0<m) (h:T k<l k):fJ l T m k=k:=by
 obtain⟨q,rfl⟩: ∃q,m=q+1:=⟨m-1,by omega⟩;rw[fJ,if_pos h]
theorem WB {l T:Nat->Int} {m k:Nat} (hm:0<m) (h: ¬T k<l k):fJ l T m k=fJ l T (m-1) (k+1):=by
 obtain⟨q,rfl⟩: ∃q,m=q+1:=⟨m-1,by omega⟩;rw[fJ,if_neg h];rfl
theorem c70 (V:BkV) (B:Bk) (hB:B.Fine) (l:Nat->Int) (tb tofs tcap:Nat) (T:Nat->Int) (w:wD) (hT:bK w tb tofs B.links.length T):
  Calls Tryd.prog 42 #[V.val B,ldv l,sL (some ⟨tb,tofs,none⟩) B.links.length tcap] w
   fun e w'=>e= .returned (iN qi (B.lack l T))/\bX w.heap.size w w':=by
 obtain⟨ta,la,pa,tc,lc,pc⟩:=V;have hl:=hB.links;have ht:=hB.towns;unfold Bk.spokes at hl;have htl:B.towns.length<=maxLen:=by unfold maxLen;omega
 have HT:=lH hT;clear hT;generalize hf:B.lack l T=f;have Hf:=lH hf;clear hf;go_enter Tryd.func42,Tryd.ntmps42;go_wp2
 go_step3
 go_wp2_with (first | (go_at_call 44;refine(c88 _ _ _ _ _ _ _ htl).mono ?_;rintro e w1 ⟨rfl,hb1⟩))
 go_step3
 go_wp2_with (first | (go_at_call 44;refine(c88 _ _ _ _ _ _ _ htl).mono ?_;rintro e w1 ⟨rfl,hb1⟩))
 have hbl:bX w.heap.size w w1:=(((bR _ _).alloc (nR _) _).alloc (by simp) _).trans (hb1.mono (by simp;omega));have hl0: ∀j,j<6->w1.cell? ⟨w.heap.size+1,j,none⟩=some (iN qi (l j)):=fun j hj=>by
  rw[(ak hb1).1 _ _ (by simp)]
  match j,hj with
  | 0,_ | 1,_ | 2,_ | 3,_ | 4,_ | 5,_=>go_simp
 have hT1:=HT.out.below hbl (nR _);have Hl0:=lH hl0;have HT1:=lH hT1;have Hbl:=lH hbl;clear hl0 hT1 hbl hb1;have hbt:((B.towns.length:Int)-1).toNat=B.towns.length-1:=by omega
 have Hbt:=lH hbt;clear hbt;have hf0:f=fJ l T (B.towns.length-1-0) 0:=Hf.out.symm;have Hf0:=lH hf0;clear hf0
 go_loopw [7,8,11] (fun r _ i wr=> ∃k:Nat,k<=B.towns.length-1/\r= iN qi (-1)/\i= iN qi (k:Int)/\f=fJ l T (B.towns.length-1-k) k/\ ∃n,wr=w1.drewN n) (fun _ _ i _=>B.towns.length-(intOf i).toNat)
 case atStart=>exact⟨0,Nat.zero_le _,rfl,rfl,Hf0.out,0,rfl⟩
 case round=>
  obtain⟨k,hk,rfl,rfl,hfk,n,rfl⟩:=hrel;have Hfk:=lH hfk;clear hfk;by_cases hlt:k<B.towns.length-1
  ·have hlk:w1.cell? ⟨w.heap.size+1,k,none⟩=some (iN qi (l k)):=Hl0.out k (by omega);have htk:w1.cell? ⟨tb,tofs+k,none⟩=some (iN qi (T k)):=HT1.out.get k (by omega);have hk0:(0 :Int)<=(k:Int):=Int.natCast_nonneg _;have hk6:(k:Int)<6:=by omega
   have hkl:(k:Int)<(B.links.length:Int):=by omega
   have hdec:decide ((k:Int)<(B.towns.length:Int)-1)=true:=by simp;omega
   by_cases hc:T k<l k
   ·go_wp2_with fail
    go_quiet (fail)
    go_wp2;rw[Exit.noGoto_ret];go_ret;exact⟨by rw[Hfk.out,Wy (by omega) hc];rfl,aV (aV Hbl.out _) _⟩
   ·go_wp2_with fail
    go_quiet (fail)
    go_wp2;go_roundw
    case rel=>exact⟨k+1,by omega,rfl,by go_num,by rw[Hfk.out,WB (by omega) (by omega)];rfl,n+nq,rfl⟩
    case measure=>simp[intOf];omega
  ·have hke:B.towns.length-1-k=0:=by omega
   have Hke:=lH hke;clear hke;have hdec:decide ((k:Int)<(B.towns.length:Int)-1)=false:=by simp;omega
   go_wp2;rw[Exit.noGoto_ret];go_ret;exact⟨by rw[Hfk.out,Hke.out];rfl,aV Hbl.out _⟩
end Go.Proofs.YtfiiffnbggnkfaaDoor
