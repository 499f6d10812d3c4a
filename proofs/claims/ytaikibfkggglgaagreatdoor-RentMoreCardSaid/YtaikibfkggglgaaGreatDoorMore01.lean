/- A part of the proof of a law; no conditions of its own. -/
import Derived.Laws.AppendOwnNone
import Derived.OrdersHeld
import Derived.Test.YtaikibfkggglgaaGreatDoorW26
open Go renaming Addr→aD, Value→vL, World→wD
open Go.RowKit renaming Below→bX
open Go.IntKind renaming i64→qi
open Go.Value renaming int→iN, slice→sL
open Go.Ending renaming returned→rT
open Go.Obj renaming cells→cL
set_option maxRecDepth 100000
open Nat renaming le_refl→nR
open Go.Lib renaming hid→lH
open Go.RowKit.Below renaming refl→bR
open Go.Proofs.Tryz renaming prog→tP
open List renaming getElem?_eq_getElem→lG
open Array renaming getElem?_eq_some_iff→aS
open List renaming getElem?_eq_some_iff→lS
open Go.World renaming block_lt_of_cell?→wBk
open Go.World renaming cell?_setCell_other→wO
open Option.some renaming injEq→oI
set_option maxHeartbeats 4000000
namespace Go.Proofs.YtaikibfkggglgaaGreatDoor
open Go.RowKit Go.Rent Go.Tp Go.Conc
theorem am5 {xs:List Int} {k:Nat} (h:k<xs.length):xs[k]=trk xs k:=by
 unfold trk;rw[List.getD_eq_getElem?_getD,lG h];rfl
def dirs (ms:List Int):Nat->List Int->List (List Int)
 | 0,t=> [t]
 |m+1,t=>(List.range ((trk ms t.length).toNat+1)).flatMap fun(n:Nat)=>dirs ms m (t++ [(n:Int)])
theorem am6 {may:Int->Bool} {ms:List Int} {s:Nat} (h: ∀i,i<ms.length->trk ms i=(iY may (s+i):Nat)): ∀(m:Nat) (t:List Int),t.length+m=ms.length->
  moreL may m (List.replicate s 0++t)=(dirs ms m t).map (List.replicate s 0++ ·)
 | 0,t,_=>rfl
 |m+1,t,hl=>by
  unfold moreL dirs;rw[List.map_flatMap,List.length_append,List.length_replicate,h t.length (by omega),Int.toNat_natCast]
  congr 1
  funext n
  rw[List.append_assoc];exact am6 h m _ (by simp;omega)
theorem am7 {ms:List Int}: ∀(m:Nat) (t x:List Int),x∈dirs ms m t->x.length=t.length+m
 | 0,t,x,h=>by
  unfold dirs at h;rw[List.mem_singleton] at h;rw[h];rfl
 |m+1,t,x,h=>by
  unfold dirs at h;rw[List.mem_flatMap] at h;obtain⟨n,_,hx⟩:=h;rw[am7 m _ x hx];simp;omega
def amD (B:Bk) (t:List Int):List Int:=List.replicate B.spokes 0++t
theorem anj {B:Bk} {may:Int->Bool} {ms:List Int} (hl:ms.length=B.links.length-B.spokes) (h: ∀i,i<ms.length->trk ms i=(iY may (B.spokes+i):Nat)):
  oP B may=(dirs ms ms.length []).map fun t=>iy B (amD B t):=by
 unfold oP;have:=am6 h ms.length [] (by simp);rw[List.append_nil] at this;rw[<-hl,this,List.map_map];rfl
def amJ (st:List (Int×Int)) (n:Int):Nat->Int
 | 0=>0
 |k+1=>match st[k]? with
  |some x=>if x.1<=n then x.2 else amJ st n k
  |none=>amJ st n k
theorem amN {st:List (Int×Int)} {n:Int} {r:Nat} {x:Int×Int} (hr:st[r]? =some x) (hx:x.1<=n) (hi: ∀j y,r<j->st[j]? =some y->n<y.1): ∀k,r<k->amJ st n k=x.2
 | 0,h=>by omega
 |k+1,h=>by
  unfold amJ;by_cases e:r=k
  ·subst e;rw[hr];simp only;rw[if_pos hx]
  ·cases hk:st[k]? with
   |none=>exact amN hr hx hi k (by omega)
   |some y=>
    have:=hi k y (by omega) hk;simp only;rw[if_neg (by omega)];exact amN hr hx hi k (by omega)
def amO (st:List (Int×Int)):Prop:=(∀x,st[0]? =some x->x.1=1)/\ ∀(i:Nat) (x y:Int×Int),st[i]? =some x->st[i+1]? =some y->x.1<y.1
theorem amU {st:List (Int×Int)} (h:amO st) {r:Nat} {n:Int} (hn: ∀y,st[r+1]? =some y->n<y.1): ∀(d:Nat) (y:Int×Int),st[r+1+d]? =some y->n<y.1
 | 0,y,hy=>hn y hy
 |d+1,y,hy=>by
  have hl:r+1+d<st.length:=by have:=(lS.1 hy).1;omega
  have h1:=amU h hn d _ (lG hl);have h2:=h.2 _ _ y (lG hl) hy;omega
theorem amV {st:List (Int×Int)} {n:Int}: ∀(f s:Nat),st.length-s<=f-> ∀x,st[s]? =some x->x.1<=n-> ∃y,st[adv st n f s]? =some y/\y.1<=n/\ ∀z,st[adv st n f s+1]? =some z->n<z.1
 | 0,s,hf,x,hs,_=>by have:=(lS.1 hs).1;omega
 |f+1,s,hf,x,hs,hx=>by
  unfold adv
  cases e:st[s+1]? with
  |none=>exact⟨x,hs,hx,fun z hz=>by simp only at hz;rw[e] at hz;cases hz⟩
  |some y=>
   dsimp only
   split
   ·rename_i hy;exact amV f (s+1) (by omega) y e hy
   ·rename_i hy;exact⟨x,hs,hx,fun z hz=>by rw[e] at hz;cases hz;omega⟩
theorem am8 {st:List (Int×Int)} (h:amO st) (h1:1<=st.length): ∀m,(bF st (m+1)).1=(bF st m).1+amJ st ((m:Int)+1) st.length/\ ∃y,st[(bF st (m+1)).2]? =some y/\y.1<=(m:Int)+1
 | 0=>by
  have h0:st[0]? =some st[0]:=lG (by omega);have hs:=h.1 _ h0;obtain⟨y,e1,e2,e3⟩:=amV (n:=(0 :Nat)+1) (st.length-0) 0 (by omega) _ h0 (by omega);refine⟨?_,y,e1,e2⟩
  show (bF st 0).1+ji st (adv st _ _ _)=_
  congr 1
  rw[show (bF st 0).2=0 from rfl];have hr:=(lS.1 e1).1;rw[amN e1 e2 (fun j z hj hz=>amU h e3 (j-(adv st ((0 :Nat)+1) (st.length-0) 0+1)) z (by rw[show adv st ((0 :Nat)+1) (st.length-0) 0+1+(j-(adv st ((0 :Nat)+1) (st.length-0) 0+1))=j by omega];exact hz)) _ hr];unfold ji;rw[e1];rfl
 |m+1=>by
  obtain⟨_,x,hx1,hx2⟩:=am8 h h1 m;have hlt:=(lS.1 hx1).1;obtain⟨y,e1,e2,e3⟩:=amV (n:=((m+1 :Nat):Int)+1) (st.length-(bF st (m+1)).2) (bF st (m+1)).2 (nR _) _ hx1 (by omega);refine⟨?_,y,e1,e2⟩
  show (bF st (m+1)).1+ji st (adv st _ _ _)=_
  congr 1
  have hr:=(lS.1 e1).1;generalize adv st (((m+1 :Nat):Int)+1) (st.length-(bF st (m+1)).2) (bF st (m+1)).2=r at *;rw[amN e1 e2 (fun j z hj hz=>amU h e3 (j-(r+1)) z (by rw[show r+1+(j-(r+1))=j by omega];exact hz)) _ hr];unfold ji;rw[e1];rfl
theorem am9: ∀(l:List (Int×Int)) (q:Int) (i:Nat),bY q i l=0->(∀x,l[0]? =some x->(i=0->x.1=1)/\q<x.1)/\ ∀(j:Nat) (x y:Int×Int),l[j]? =some x->l[j+1]? =some y->x.1<y.1
 | [],q,i,_=>⟨fun x h=>by simp at h,fun j x y h=>by simp at h⟩
 |a::l,q,i,h=>by
  unfold bY at h
  split at h
  ·cases h
  ·rename_i h1
   split at h
   ·cases h
   ·obtain⟨k1,k2⟩:=am9 l a.1 (i+1) h;simp only[not_or,not_and,ne_eq,Decidable.not_not] at h1;refine⟨fun x hx=> ?_,fun j x y hx hy=> ?_⟩
    ·simp only[List.getElem?_cons_zero,oI] at hx;subst hx;exact⟨h1.1,by omega⟩
    ·cases j with
     |zero=>
      simp only[List.getElem?_cons_zero,oI] at hx;subst hx;exact(k1 y (by simpa using hy)).2
     |succ j=>exact k2 j x y (by simpa using hx) (by simpa using hy)
theorem ank {l:List (Int×Int)} (h:bJ l=0):amO l:=by
 unfold bJ at h
 split at h
 ·obtain⟨k1,k2⟩:=am9 l 0 0 h;exact⟨fun x hx=>(k1 x hx).1 rfl,k2⟩
 ·cases h
theorem anl {st:List (Int×Int)} {n:Int} {k:Nat} {x:Int×Int} (h:st[k]? =some x):amJ st n (k+1)=if x.1<=n then x.2 else amJ st n k:=by
 rw[amJ,h]
theorem r89 (st:List (Int×Int)) (sa:Option aD) (sc:Nat) (n:Int) (w:wD) (hs:SlB w sa st) (hl:st.length<=1000000):
  Calls tP 89 #[sL sa st.length sc,iN qi n] w fun e w'=>e= rT (iN qi (amJ st n st.length))/\w=w':=by
 have HS:=lH hs;clear hs;go_enter Tryz.func89,Tryz.ntmps89;go_wp2
 go_loopw [5,6] (fun p i wr=> ∃k:Nat,k<=st.length/\p= iN qi (amJ st n k)/\i= iN qi (k:Int)/\w=wr) (fun _ i _=>st.length-(intOf i).toNat)
 case atStart=>exact⟨0,Nat.zero_le _,rfl,rfl,rfl⟩
 case round=>
  obtain⟨k,hk,rfl,rfl,rfl⟩:=hrel;by_cases hlt:k<st.length
  ·have hx:st[k]? =some st[k]:=lG hlt;obtain⟨b,o,rfl,g0,g1⟩:=HS.out k _ hx;have hlt2:(k:Int)<(st.length:Int):=by omega
   have HP:=lH (anl (n:=n) hx);clear hx;generalize st[k]=x at *;obtain⟨x1,x2⟩:=x;simp only at g0 g1 HP;by_cases hc:x1<=n
   ·go_wp2;exact⟨⟨k+1,by omega,by rw[HP.out,if_pos hc],by go_num,trivial⟩,by simp[intOf];omega⟩
   ·go_wp2;exact⟨⟨k+1,by omega,by rw[HP.out,if_neg hc],by go_num,trivial⟩,by simp[intOf];omega⟩
  ·have hke:k=st.length:=by omega
   subst hke;go_wp2;go_ret;exact⟨rfl,rfl⟩
theorem r56 (V:BkV) (B:Bk) (hG:Good B) (xs:List Int) (xa:Option aD) (xc:Nat) (w:wD) (hs:aB w V B) (hx:SlI w xa xs) (hxl:xs.length=B.links.length) (hT: ∀k,0<=trk xs k/\trk xs k<=30):
  Calls tP 56 #[V.val B,sL xa xs.length xc] w fun e w'=>e= rT (iN qi (fZ B (trk xs) xs.length))/\bX w.heap.size w w':=by
 obtain⟨ta,la,pa,tc,lc,pc⟩:=V;have hll:=hG.fine.links;have hbd:=ED hG hT;have HL:Hid (∀k,k<xs.length-> ∃(st:List (Int×Int)) (b o:Nat) (sa:Option aD) (sc:Nat),la=some ⟨b,o,none⟩/\(∀u,bX w.heap.size w u->u.cell? ⟨b,o+k*3+2,none⟩=some (sL sa st.length sc)/\SlB u sa st)/\st.length<=1000000/\1<=st.length/\amO st/\(∀x∈st,0<=x.2/\x.2<=99)/\ ∀t,bH B (k:Int) t=(bF st t.toNat).1):=lH fun k hk=>by
  have hL:B.links[k]? =some B.links[k]:=lG (by omega);obtain⟨b,o,sa,sc,e,_,_,h4,h5,h6⟩:=hs.links k _ hL;obtain⟨_,_,_,hal⟩:=hG.links k _ hL;refine⟨_,b,o,sa,sc,e,fun u hu=>⟨aoF hu h4 (nR _),h5.below hu (nR _)⟩, ?_,hG.steps k _ hL,ank hal,Ez hal,fun t=>by unfold bH;rw[Int.toNat_natCast,hL];rfl⟩;have:btw (B.links[k].steps.length:Int) 1 3=true:=by
   unfold bJ at hal
   split at hal
   ·assumption
   ·cases hal
  simp[btw] at this;omega
 have HX:Hid (∀u,bX w.heap.size w u-> ∀k,k<xs.length-> ∃b o,xa=some ⟨b,o,none⟩/\u.cell? ⟨b,o+k,none⟩=some (iN qi (trk xs k))):=lH fun u hu k hk=>by
  obtain⟨b,o,e,h⟩:=(hx.below hu (nR _)) k _ (lG hk);rw[am5 hk] at h;exact⟨b,o,e,h⟩
 have HUp:Hid (∀k,fZ B (trk xs) (k+1)=fZ B (trk xs) k+bH B (k:Int) (trk xs k)):=lH fun k=>rfl;have HU0:Hid (fZ B (trk xs) 0=0):=lH rfl;have HBd:=lH hbd;have HT:=lH hT;have hx6:xs.length<=6:=by omega
 have HXL:=lH hxl;generalize fZ B (trk xs)=C at *;generalize bH B=D at *;generalize trk xs=T at *;clear hs hx hT hbd hG hxl hll;go_enter Tryz.func56,Tryz.ntmps56;go_wp2;generalize hWd:w.alloc (cL #[iN qi B.hours,sL ta B.towns.length tc,sL la B.links.length lc,sL pa B.pairs.length pc] 26)=W;have HBW:Hid (bX w.heap.size w W):=lH (by subst hWd;exact(bR _ _).alloc (nR _) _);have hW2:W.cell? ⟨w.heap.size,2,none⟩=some (sL la B.links.length lc):=by subst hWd;go_simp
 clear hWd
 go_loopw [5,6] (fun s i wr=> ∃k:Nat,k<=xs.length/\s= iN qi (C k)/\i= iN qi (k:Int)/\W=wr) (fun _ i _=>xs.length-(intOf i).toNat)
 case atStart=>exact⟨0,Nat.zero_le _,by rw[HU0.out],rfl,rfl⟩
 case round=>
  obtain⟨k,hk,rfl,rfl,rfl⟩:=hrel;by_cases hlt:k<xs.length
  ·have hlt2:(k:Int)<(xs.length:Int):=by omega
   obtain⟨st,b,o,sa,sc,rfl,hc,hst,hst1,hri,hpr,hD⟩:=HL.out k hlt;obtain⟨h4,h5⟩:=hc W HBW.out;obtain⟨tb,tofs,rfl,t0⟩:=HX.out W HBW.out k hlt;have hup:=HUp.out k;have hb1:=HBd.out k;have ht:=HT.out k;rw[hD] at hup;generalize T k=t at *;generalize hck:C k=c at *;have HH5:=lH h5;have HRi:=lH hri;have HPr:=lH hpr;have HUp1:=lH hup;clear hc h5 hri hpr hD hup hck;go_wp2
   go_loopw [5,7] (fun s i wr=> ∃m:Nat,(m:Int)<=t/\s= iN qi (c+(bF st m).1)/\i= iN qi ((m:Int)+1)/\W=wr) (fun _ i _=>t.toNat+1-(intOf i).toNat)
   case atStart=>exact⟨0,by omega,by simp[bF],by simp,rfl⟩
   case round=>
    obtain⟨m,hm,rfl,rfl,rfl⟩:=hrel;by_cases hmt:(m:Int)+1<=t
    ·have hcp:=(am8 HRi.out hst1 m).1;have hcb:=Ey HPr.out hst1 (m+1);have hcb0:=Ey HPr.out hst1 m;have hnl:(k:Int)<(B.links.length:Int):=by
      have:=HXL.out;omega
     have H89:=lH (r89 st sa sc ((m:Int)+1) W HH5.out hst);generalize amJ st ((m:Int)+1) st.length=p at *;generalize (bF st m).1=q at *;generalize hq:(bF st (m+1)).1=q1 at *;have HQ:=lH hq;clear hq;have hw:IntKind.wrap qi (c+q+p)=c+q1:=by rw[IntWalk.i64_in _ (by omega)];omega
     have HC:=lH hcp;clear hcp
     go_wp2_with fail
     refine H89.out.mono ?_;rintro e w2 ⟨rfl,rfl⟩;go_wp2;go_roundw
     case rel=>exact⟨m+1,by omega,by rw[HQ.out],by go_num,trivial⟩
     case measure=>simp[intOf];omega
    ·have hmt2:(m:Int)=t:=by omega
     have HF:Hid (C (k+1)=c+(bF st m).1):=lH (by rw[HUp1.out,show t.toNat=m by omega]);go_wp2;go_roundw
     case rel=>exact⟨k+1,by omega,by rw[HF.out],by go_num,trivial⟩
     case measure=>simp[intOf];omega
  ·have hke:k=xs.length:=by omega
   subst hke;go_wp2;go_ret;exact⟨rfl,HBW.out⟩
def Rw (w:wD) (a:Option aD) (c:Nat) (l:List Int):Prop:=(a=none/\c=0/\l= [])\/ ∃b cur fz,a=some ⟨b,0,none⟩/\w.heap[b]? =some (cL cur 3 fz)/\ ∀(j:Nat) (x:Int),l[j]? =some x->cur[j]? =some (iN qi x)
theorem ana {w:wD} {b j:Nat} {cur:Array vL} {e:TypeId} {fz:Nat×Nat} {u:vL} (h:w.heap[b]? =some (cL cur e fz)) (hj:cur[j]? =some u):w.cell? ⟨b,j,none⟩=some u:=by
 simp[World.cell?,h,hj]
theorem Rw.sl {w:wD} {a:Option aD} {c:Nat} {l:List Int} (h:Rw w a c l):SlI w a l:=fun i x hx=>by
 rcases h with ⟨_,_,rfl⟩ |⟨b,cur,fz,rfl,hb,hc⟩
 ·simp at hx
 ·exact⟨b,0,rfl,by rw[Nat.zero_add];exact ana hb (hc i x hx)⟩
def Kp (w w':wD):Prop:= ∀(b:Nat) (cur:Array vL) (fz:Nat×Nat),w.heap[b]? =some (cL cur 3 fz)->w'.heap[b]? =w.heap[b]?
theorem Rw.keep {w w':wD} {a:Option aD} {c:Nat} {l:List Int} (h:Rw w a c l) (k:Kp w w'):Rw w' a c l:=by
 rcases h with h |⟨b,cur,fz,e,hb,hc⟩
 ·exact .inl h
 ·exact .inr ⟨b,cur,fz,e,(k b cur fz hb).trans hb,hc⟩
theorem Kp.below {w w':wD} (h:bX w.heap.size w w'):Kp w w':=fun b _ _ hb=>h.block b (aS.1 hb).1
theorem Kp.trans {a b c:wD} (h:Kp a b) (k:Kp b c):Kp a c:=fun n cur fz hn=>(k n cur fz ((h n cur fz hn).trans hn)).trans (h n cur fz hn)
theorem Kp.grown {w w':wD} {v:vL} {base n s:Nat} {e:TypeId} {xs:List vL} (ho:w.ownsRow base e s v n xs) (he:e≠3) (hg:w.grownBy w' v.ownBlock):Kp w w':=fun b cur fz hb=>
 hg.block b (aS.1 hb).1 fun h=>by
  rcases ho.2 with ⟨rfl,_⟩ |⟨g,cap,cr,rfl,_,hgg,_⟩
  ·simp[Value.ownBlock] at h
  ·simp only[Value.ownBlock,oI] at h;subst h;rw[hgg] at hb;simp only[oI,Obj.cells.injEq] at hb;exact he hb.2.1
theorem anm {w:wD} {base:Nat} {v:vL} {l:List Int} (h:w.ownsRow base 3 1 v l.length (ints l)): ∃a c,v= sL a l.length c/\Rw w a c l:=by
 obtain⟨_,⟨e,h0⟩ |⟨g,cap,cur,e,_,hb,_,_,hs,ht⟩⟩:=h
 ·have:l= []:=List.eq_nil_of_length_eq_zero h0;subst this;exact⟨none,0,e,.inl ⟨rfl,rfl,rfl⟩⟩
 ·refine⟨_,cap,e,.inr ⟨g,cur,_,rfl,hb,fun j x hx=> ?_⟩⟩;have hj:(ints l)[j]? =some (iN qi x):=by unfold ints;rw[List.getElem?_map,hx];rfl
  rw[<-ht,List.getElem?_take] at hj
  split at hj
  ·simpa using hj
  ·cases hj
def LsR (w:wD) (base:Nat) (v:vL) (ls:List (List Int)):Prop:= ∃vs:List vL,w.ownsRow base 33 1 v ls.length vs/\ ∀(j:Nat) (l:List Int),ls[j]? =some l-> ∃a c,vs[j]? =some (sL a l.length c)/\Rw w a c l
theorem LsR.nil (w:wD) (base:Nat):LsR w base (sL none 0 0) []:=⟨[],World.ownsRow_nil _ _ _ _,fun j l h=>by simp at h⟩
theorem LsR.len {w:wD} {base:Nat} {v:vL} {ls:List (List Int)} (h:LsR w base v ls): ∃vs:List vL,vs.length=ls.length/\w.ownsRow base 33 1 v ls.length vs/\ ∀(j:Nat) (l:List Int),ls[j]? =some l-> ∃a c,vs[j]? =some (sL a l.length c)/\Rw w a c l:=by
 obtain⟨vs,h1,h2⟩:=h;exact⟨vs,by rw[h1.1,Nat.mul_one],h1,h2⟩
theorem ano {w w':wD} {base:Nat} {v':vL} {ls ms:List (List Int)} {vs us:List vL} (hlen:vs.length=ls.length) (h: ∀(j:Nat) (l:List Int),ls[j]? =some l-> ∃a c,vs[j]? =some (sL a l.length c)/\Rw w a c l)
  (g: ∀(j:Nat) (l:List Int),ms[j]? =some l-> ∃a c,us[j]? =some (sL a l.length c)/\Rw w a c l) (k:Kp w w') (ho:w'.ownsRow base 33 1 v' (ls.length+ms.length) (vs++us)):LsR w' base v' (ls++ms):=by
 refine⟨vs++us,by rw[List.length_append];exact ho,fun j l hj=> ?_⟩;by_cases e:j<ls.length
 ·rw[List.getElem?_append_left e] at hj;rw[List.getElem?_append_left (by omega)];obtain⟨a,c,h1,h2⟩:=h j l hj;exact⟨a,c,h1,h2.keep k⟩
 ·rw[List.getElem?_append_right (by omega)] at hj;rw[List.getElem?_append_right (by omega),hlen];obtain⟨a,c,h1,h2⟩:=g _ l hj;exact⟨a,c,h1,h2.keep k⟩
theorem anp {w w':wD} {ls:List (List Int)} {vs:List vL} (h: ∀(j:Nat) (l:List Int),ls[j]? =some l-> ∃a c,vs[j]? =some (sL a l.length c)/\Rw w a c l) (k:Kp w w'): ∀(j:Nat) (l:List Int),ls[j]? =some l-> ∃a c,vs[j]? =some (sL a l.length c)/\Rw w' a c l:=fun j l hj=>by
 obtain⟨a,c,h1,h2⟩:=h j l hj;exact⟨a,c,h1,h2.keep k⟩
theorem amW {ops:Array Oper} {rest:List Oper} {o:Oper} {a:Act} {w W:wD} {Q:Exit->Act->wD->Prop} (hgd:o.guard=none) (s x:Operand) (ho:o.op= .call {callee:= .builtin .append,args:= #[s,x],argTypes:= #[33,33]}) {v:vL} {xs:List vL} {n:Nat} (hs:a.eval s=v) (hown:w.ownsRow W.heap.size 3 1 v n xs) (hb:bX W.heap.size W w)
  {ra:Option aD} {rc:Nat} {l:List Int} (hx:a.eval x= sL ra l.length rc) (hr:Rw w ra rc l) (hn:n<=1000000) (hl:l.length<=1000000)
  (h: ∀v' w',w'.ownsRow W.heap.size 3 1 v' (n+l.length) (xs++ints l)->bX W.heap.size W w'->w.heap.size<=w'.heap.size->wpList tP ops Q rest (a.put o.dst v') w'):wpList tP ops Q (o::rest) a w:=by
 obtain⟨i0,hi,hz0,hz1,hz2⟩:=info_parts info3
 rcases hr with ⟨rfl,rfl,rfl⟩ |⟨b,cur,fz,rfl,hbl,hc⟩
 ·refine wpList_append_own_none hgd s x 33 ho W.heap.size 3 i0 1 Tryz.underlying33 hi v n xs hs hown hx ?_;exact h v w (by simpa[ints] using hown) hb (nR _)
 ·refine wpList_append_own _ hgd s x 33 ho W.heap.size 3 i0 (iN qi 0) 1 8 Tryz.underlying33 hi hz0 hz1 hz2 rfl (by decide) v n xs hs hown ⟨b,0,none⟩ l.length rc (ints l) hx (by simp[ints]) (fun j u hj=> ?_) EF (by unfold maxLen;omega) (by omega) hb.size fun v' w' h1 h2 _=> ?_
  ·unfold ints at hj;rw[List.getElem?_map] at hj
   cases e:l[j]? with
   |none=>rw[e] at hj;cases hj
   |some y=>
    rw[e] at hj
    cases hj
    rw[Bz,Nat.zero_add];exact ana hbl (hc j y e)
  ·exact h v' w' h1 (hb.grown h2 hb.size fun j hj=>(hown.lt j hj).1) h2.size
theorem info33:(tP.info? 33).map (fun i=>(i.zero,i.size,i.bytes))=some (some (sL none 0 0),1,24):=by kernel_rfl
theorem amX {ms:List Int} {m K:Nat} (t:List Int) (h: ∀n:Nat,(dirs ms m (t++ [(n:Int)])).length<=K): ∀k,((List.range k).flatMap fun(n:Nat)=>dirs ms m (t++ [(n:Int)])).length<=k*K
 | 0=>by simp
 |k+1=>by
  rw[List.range_succ,List.flatMap_append,List.length_append,List.flatMap_singleton,Nat.succ_mul];exact Nat.add_le_add (amX t h k) (h k)
theorem amP {ms:List Int} (hms: ∀i,0<=trk ms i/\trk ms i<=5): ∀(m:Nat) (t:List Int),(dirs ms m t).length<=6^m
 | 0,t=>by simp[dirs]
 |m+1,t=>by
  unfold dirs;refine Nat.le_trans (amX t (fun n=>amP hms m _) _) ?_;rw[Nat.pow_succ,Nat.mul_comm];refine Nat.mul_le_mul_left _ ?_;have:=hms t.length;omega
theorem amY {ms:List Int}: ∀(m:Nat) (t:List Int),1<=(dirs ms m t).length
 | 0,t=>by simp[dirs]
 |m+1,t=>by
  unfold dirs;rw[List.range_succ,List.flatMap_append,List.length_append,List.flatMap_singleton];have:=amY (ms:=ms) m (t++ [((trk ms t.length).toNat:Int)]);omega
theorem anb {w w':wD} {base e s n:Nat} {v:vL} {xs:List vL} (h:w.ownsRow base e s v n xs) (hb:bX w.heap.size w w'):w'.ownsRow base e s v n xs:=by
 obtain⟨h1,h2 |⟨g,cap,cur,e1,h3,h4,h5⟩⟩:=h
 ·exact⟨h1,.inl h2⟩
 ·exact⟨h1,.inr ⟨g,cap,cur,e1,h3,(hb.block g (aS.1 h4).1).trans h4,h5⟩⟩
theorem anq {ls:List (List Int)} {vs:List vL} (hl:vs.length=ls.length) {w:wD} (h: ∀(j:Nat) (l:List Int),ls[j]? =some l-> ∃a c,vs[j]? =some (sL a l.length c)/\Rw w a c l): ∀u∈vs,u.oneCell'=true:=fun u hu=>by
 obtain⟨j,hj,rfl⟩:=List.getElem_of_mem hu;obtain⟨a,c,e,_⟩:=h j _ (lG (by omega));rw[lG hj,oI] at e;rw[e];rfl
theorem row_one {w:wD} {base:Nat} {e:TypeId} {x:vL} (hb:base<=w.heap.size):(w.alloc (cL #[x] e)).ownsRow base e 1 (sL (some ⟨w.heap.size,0,none⟩) 1 1) 1 [x]:=
 ⟨rfl,.inr ⟨w.heap.size,1,#[x],rfl,hb,heap_alloc_new w _,nR _,by decide,rfl,rfl⟩⟩
theorem r93 (ms:List Int) (hms: ∀i,0<=trk ms i/\trk ms i<=5) (h6:ms.length<=6) (ma:Option aD) (mc:Nat): ∀(m:Nat) (t:List Int) (ta:Option aD) (tc:Nat) (w:wD),t.length+m=ms.length->SlI w ma ms->Rw w ta tc t->
  Calls tP 93 #[sL ma ms.length mc,sL ta t.length tc] w fun e w'=> ∃v,e= rT v/\LsR w' w.heap.size v (dirs ms m t)/\bX w.heap.size w w':=by
 intro m
 induction m with
 |zero=>
  intro t ta tc w hl hm ht;have HF:Hid (LsR (w.alloc (cL #[sL ta t.length tc] 33)) w.heap.size (sL (some ⟨w.heap.size,0,none⟩) 1 1) (dirs ms 0 t)):=lH ⟨[sL ta t.length tc],row_one (nR _),fun j l hj=>by
   match j,hj with
   | 0,hj=>cases hj;exact⟨ta,tc,rfl,ht.keep (Kp.below ((bR _ _).alloc (nR _) _))⟩⟩
  have HB:Hid (bX w.heap.size w (w.alloc (cL #[sL ta t.length tc] 33))):=lH ((bR _ _).alloc (nR _) _);rw[show t.length=ms.length by omega] at HF HB ⊢;clear hm ht;go_enter Tryz.func93,Tryz.ntmps93;go_wp2;go_ret;exact⟨_,rfl,HF.out,HB.out⟩
 |succ m ih=>
  intro t ta tc w hl hm ht;obtain⟨b,o,rfl,g0⟩:=hm t.length _ (lG (show t.length<ms.length by omega));rw[am5 (by omega)] at g0;have htop:=hms t.length;have hcnt: ∀k,((List.range k).flatMap fun(n:Nat)=>dirs ms m (t++ [(n:Int)])).length<=k*46656:=fun k=>amX t (fun n=>Nat.le_trans (amP hms m _) (Nat.pow_le_pow_right (by omega) (show m<=6 by omega))) k;have HU:Hid (∀k:Nat,((List.range (k+1)).flatMap fun(n:Nat)=>dirs ms m (t++ [(n:Int)]))=((List.range k).flatMap fun(n:Nat)=>dirs ms m (t++ [(n:Int)]))++dirs ms m (t++ [(k:Int)])):=lH fun k=>by rw[List.range_succ,List.flatMap_append,List.flatMap_singleton]
  have HE:Hid (dirs ms (m+1) t=(List.range ((trk ms t.length).toNat+1)).flatMap fun(n:Nat)=>dirs ms m (t++ [(n:Int)])):=lH rfl;have HU0:Hid (((List.range 0).flatMap fun(n:Nat)=>dirs ms m (t++ [(n:Int)]))= []):=lH rfl;have HCn:Hid (∀(k:Nat),(k:Int)<=5->(((List.range k).flatMap fun(n:Nat)=>dirs ms m (t++ [(n:Int)])).length<=300000/\(dirs ms m (t++ [(k:Int)])).length<=46656)):=lH fun k hk=>by
   have h1:=hcnt k;have h2:(dirs ms m (t++ [(k:Int)])).length<=46656:=Nat.le_trans (amP hms m _) (Nat.pow_le_pow_right (by omega) (show m<=6 by omega));refine⟨?_,h2⟩;have:k<=5:=by omega
   have:=Nat.mul_le_mul_right 46656 this;omega
  have HIH:Hid (∀(k:Nat) (t':List Int) (a:Option aD) (c:Nat) (u:wD),t'=t++ [(k:Int)]->bX w.heap.size w u->Rw u a c t'->Calls tP 93 #[sL (some ⟨b,o,none⟩) ms.length mc,sL a t'.length c] u _):=lH fun k t' a c u e hu hr=>ih t' a c u (by rw[e];simp;omega) (hm.below hu (nR _)) hr;have HSome:Hid (∀k:Nat,1<=(dirs ms m (t++ [(k:Int)])).length):=lH fun k=>amY m _;rw[HE.out];generalize hF:(fun k:Nat=>(List.range k).flatMap fun(n:Nat)=>dirs ms m (t++ [(n:Int)]))=F;have hF': ∀k:Nat,((List.range k).flatMap fun(n:Nat)=>dirs ms m (t++ [(n:Int)]))=F k:=fun k=>by rw[<-hF]
  simp only[hF'] at HU HU0 HCn ⊢;generalize hG:(fun k:Nat=>dirs ms m (t++ [(k:Int)]))=G;have hG': ∀k:Nat,dirs ms m (t++ [(k:Int)])=G k:=fun k=>by rw[<-hG]
  have HG':=lH hG';simp only[hG'] at HU HCn HSome;have HRt:=lH ht;have hne: ¬(t.length:Int)=(ms.length:Int):=by omega
  have hlt:(t.length:Int)<(ms.length:Int):=by omega
  have hbe:((t.length:Int)==(ms.length:Int))=false:=by simp;omega
  generalize trk ms t.length=top at *;clear hm ht hms ih hcnt hF hF' hG hG' HE;obtain⟨i0,hi,hz0,hz1,hz2⟩:=info_parts info3;obtain⟨j0,hj,hy0,hy1,hy2⟩:=info_parts info33;go_enter Tryz.func93,Tryz.ntmps93;go_wp2
  go_loopw [5,6] (fun v i wr=> ∃k:Nat,(k:Int)<=top+1/\i= iN qi (k:Int)/\LsR wr w.heap.size v (F k)/\bX w.heap.size w wr) (fun _ i _=>top.toNat+1-(intOf i).toNat)
  case atStart=>exact⟨0,by omega,rfl,by rw[HU0.out];exact LsR.nil _ _,bR _ _⟩
  case round=>
   obtain⟨k,hk,rfl,hll,hb⟩:=hrel;have Hll:=lH hll;have Hb:=lH hb;clear hll hb;have g1:=aoF Hb.out g0 (nR _);by_cases hkt:(k:Int)<=top
   ·obtain⟨vs,hvl,hvo,hve⟩:=Hll.out.len;have HVo:=lH hvo;have HVe:=lH hve;have hcn:=HCn.out k (by omega);have HRt1:Hid (Rw (wr.alloc (cL #[] 3)) ta tc t):=lH (HRt.out.keep (Kp.below (Hb.out.alloc Hb.out.size _)));have HO1:Hid ((wr.alloc (cL #[] 3)).ownsRow wr.heap.size 3 1 (sL (some ⟨wr.heap.size,0,none⟩) 0 0) 0 []):=lH (World.ownsRow_made wr #[] 0 (nR _) (by decide) rfl);have HB1:Hid (bX wr.heap.size wr (wr.alloc (cL #[] 3))):=lH ((bR _ _).alloc (nR _) _);clear hvo hve
    go_wp2_with (at_builtin;refine amW rfl _ _ rfl rfl HO1.out HB1.out rfl HRt1.out (by omega) (by omega) ?_)
    intro v1 w1 ho1 hb1 _;have HB2:Hid (bX wr.heap.size wr (w1.alloc (cL #[iN qi (k:Int)] 3))):=lH (hb1.alloc hb1.size _);have HO2:Hid ((w1.alloc (cL #[iN qi (k:Int)] 3)).ownsRow wr.heap.size 3 1 v1 t.length (ints t)):=lH (ho1.alloc _);have HN:Hid (∀(j:Nat) (u:vL),([iN qi (k:Int)]:List vL)[j]? =some u->(w1.alloc (cL #[iN qi (k:Int)] 3)).cell? ((⟨w1.heap.size,0,none⟩:aD).add j)=some u):=lH fun j u hj=>by
     match j,hj with
     | 0,hj=>cases hj;simp only[Addr.add];go_simp
    clear ho1 hb1
    go_wp2_with (at_builtin;refine wpList_append_own _ rfl _ _ 33 rfl wr.heap.size 3 i0 (iN qi 0) 1 8 Tryz.underlying33 hi hz0 hz1 hz2 rfl (by decide) _ _ _ rfl HO2.out ⟨w1.heap.size,0,none⟩ 1 1 [iN qi (k:Int)] rfl rfl HN.out (by simp[Value.oneCell']) (by unfold maxLen;omega) (by omega) HB2.out.size ?_)
    intro v2 w2 ho2 hg2 _;have hb2:=HB2.out.grown hg2 HB2.out.size (fun j hj=>(HO2.out.lt j hj).1);obtain⟨t',ht'⟩: ∃t',t'=t++ [(k:Int)]:=⟨_,rfl⟩;have hrow:w2.ownsRow wr.heap.size 3 1 v2 t'.length (ints t'):=by rw[ht'];simpa[ints] using ho2
    obtain⟨a2,c2,rfl,hrw⟩:=anm hrow;have HC:=lH (HIH.out k t' a2 c2 w2 ht' (Hb.out.trans (hb2.mono Hb.out.size)) hrw);have HB2w:=lH hb2;have HT':=lH ht';clear ho2 hg2 hb2 hrow hrw ht' HN
    go_wp2_with fail
    refine HC.out.mono ?_;rintro e w3 ⟨v3,rfl,hll3,hb3⟩;rw[HT'.out,HG'.out] at hll3;obtain⟨us,hul,huo,hue⟩:=hll3.len;have HB3:=lH (HB2w.out.trans (hb3.mono HB2w.out.size));obtain⟨g3,gc3,rfl,hg3,hgz3,hcell3,_,_,_⟩:=ru huo (HSome.out k);have HO4:=lH (anb HVo.out HB3.out);have HOne:=lH (anq hul hue);have HN3:Hid (∀(j:Nat) (u:vL),us[j]? =some u->w3.cell? ((⟨g3,0,none⟩:aD).add j)=some u):=lH fun j u hj=>by rw[Bz,Nat.zero_add];exact hcell3 j u hj
    have HLs:Hid (us.length=(G k).length*1):=lH (by rw[hul,Nat.mul_one]);have HUe:=lH hue;have HBw:Hid (w.heap.size<=w3.heap.size):=lH (Nat.le_trans Hb.out.size HB3.out.size);clear hll3 hb3 huo hg3 hcell3 hue
    go_wp2_with (at_builtin;refine wpList_append_own _ rfl _ _ 140 rfl w.heap.size 33 j0 (sL none 0 0) 1 24 Tryz.underlying140 hj hy0 hy1 hy2 rfl (by decide) _ _ _ rfl HO4.out ⟨g3,0,none⟩ (G k).length gc3 us rfl HLs.out HN3.out HOne.out (by unfold maxLen;omega) (by omega) HBw.out ?_)
    intro v4 w4 ho4 hg4 _;have HL4:=lH (ano hvl (anp HVe.out (Kp.below HB3.out)) HUe.out (Kp.grown HO4.out (by decide) hg4) ho4);have HB4:=lH ((Hb.out.trans (HB3.out.mono Hb.out.size)).grown hg4 HBw.out (fun j hj=>(HO4.out.lt j hj).1));clear ho4 hg4;go_wp2;go_roundw
    case rel=>exact⟨k+1,by omega,by go_num,by rw[HU.out];exact HL4.out,HB4.out⟩
    case measure=>simp[intOf];omega
   ·have HF:Hid (LsR wr w.heap.size u5 (F (top.toNat+1))):=lH (by rw[show top.toNat+1=k by omega];exact Hll.out);go_wp2;go_ret;exact⟨u5,rfl,HF.out,Hb.out⟩
def aey (B:Bk) (most:Bool) (h n:Nat):List Int:=(List.range n).map (B.call most h)
theorem aeY (B:Bk) (most:Bool) (h n:Nat):ints (aey B most h (n+1))=ints (aey B most h n)++ [iN qi (B.call most h n)]:=by
 unfold aey ints;rw[List.range_succ];simp
theorem c60 (V:BkV) (B:Bk) (most:Bool) (h:Nat) (w:wD) (hs:aB w V B) (hG:Good B) (hh:(h:Int)<B.hours):
  Calls tP 100 #[V.val B,iN qi (h:Int),.bool most] w fun e w'=> ∃v,e= rT v/\w'.ownsRow w.heap.size 3 1 v B.pairs.length (ints (aey B most h B.pairs.length))/\bX w.heap.size w w':=by
 obtain⟨ta,la,pa,tc,lc,pc⟩:=V;have hnp:=hG.fine.pairs;have HC:Hid (∀k,k<B.pairs.length-> ∃b o sb so n sc lo up,pa=some ⟨b,o,none⟩/\(∀u,bX w.heap.size w u->u.cell? ⟨b,o+k*3+2,none⟩=some (sL (some ⟨sb,so,none⟩) n sc)/\u.cell? ⟨sb,so+h*2,none⟩=some (iN qi lo)/\u.cell? ⟨sb,so+h*2+1,none⟩=some (iN qi up))/\h<n/\B.call most h k=if most then up else lo):=lH fun k hk=>by
  have hx:B.pairs[k]? =some B.pairs[k]:=lG hk;obtain⟨b,o,sa,sc,e,_,_,h3,h4,_⟩:=hs.pairs k _ hx;have hc:=(hG.fine.calls k _ hx).1;have hlt:h<B.pairs[k].calls.length:=by omega
  have hy:B.pairs[k].calls[h]? =some B.pairs[k].calls[h]:=lG hlt;obtain⟨sb,so,e2,g0,g1⟩:=h4 h _ hy;subst e2;refine⟨b,o,sb,so,_,sc,_,_,e,fun u hu=>⟨aoF hu h3 (nR _),aoF hu g0 (nR _),aoF hu g1 (nR _)⟩,hlt, ?_⟩;unfold Bk.call;rw[hx];simp only[Option.bind_some,hy]
 clear hs hG hh;obtain⟨i0,hi,hz0,hz1,hz2⟩:=info_parts info3;go_enter Tryz.func100,Tryz.ntmps100
 go_wp2_with fail
 generalize hWd:w.alloc (cL #[iN qi B.hours,sL ta B.towns.length tc,sL la B.links.length lc,sL pa B.pairs.length pc] 26)=W;have HBW:Hid (bX w.heap.size w W):=lH (by subst hWd;exact(bR _ _).alloc (nR _) _);have HW3:Hid (W.cell? ⟨w.heap.size,3,none⟩=some (sL pa B.pairs.length pc)):=lH (by subst hWd;go_simp);clear hWd
 go_loopw [7,8] (fun v i wr=> ∃k:Nat,k<=B.pairs.length/\i= iN qi (k:Int)/\wr.ownsRow W.heap.size 3 1 v k (ints (aey B most h k))/\bX W.heap.size W wr) (fun _ i _=>B.pairs.length-(intOf i).toNat)
 case atStart=>exact⟨0,Nat.zero_le _,rfl,World.ownsRow_nil _ _ _ _,bR _ _⟩
 case round=>
  obtain⟨k,hk,rfl,hown,hb⟩:=hrel;have Hown:=lH hown;have Hb:=lH hb;clear hown hb;have k3:=aoF Hb.out HW3.out (nR _);by_cases hlt:k<B.pairs.length
  ·obtain⟨b,o,sb,so,n,sc,lo,up,e,hcs,hn,hval⟩:=HC.out k hlt;subst e;obtain⟨c0,c1,c2⟩:=hcs wr (HBW.out.trans (Hb.out.mono HBW.out.size));have z0:=wBk _ _ c0;have z1:=wBk _ _ c1;have hhn:(h:Int)<(n:Int):=by omega
   have Hval:=lH hval;have Hsn:=lH (aeY B most h k);clear hcs hval;generalize B.call most h k=y at *;have hkp:(k:Int)<(B.pairs.length:Int):=by omega
   have HB9:=lH (Hb.out.alloc Hb.out.size (cL #[iN qi lo,iN qi up] 43));have HO9:=lH (Hown.out.alloc (cL #[iN qi lo,iN qi up] 43));have HN:Hid (∀(z:Int) (j:Nat) (u:vL),([iN qi z]:List vL)[j]? =some u->((wr.alloc (cL #[iN qi lo,iN qi up] 43)).alloc (cL #[iN qi z] 3)).cell? ((⟨wr.heap.size+1,0,none⟩:aD).add j)=some u):=lH fun z j u hj=>by
    match j,hj with
    | 0,hj=>cases hj;simp only[Addr.add];go_simp
   have H1c:Hid (∀(z:Int),∀u∈([iN qi z]:List vL),u.oneCell'=true):=lH fun z=>by simp[Value.oneCell']
   have Hb63:Hid (k+1<=maxLen):=lH (by unfold maxLen;omega);have Hbb:Hid ((k+1)*8<=140737488355328):=lH (by omega);have Hsz:Hid (W.heap.size<=wr.heap.size+1+1):=lH (by have:=Hb.out.size;omega)
   cases most
   all_goals
    simp only[Bool.false_eq_true,if_true,if_false] at Hval;have hy:=Hval.out;subst hy
    go_wp2_with (at_builtin;refine wpList_append_own _ rfl _ _ 33 rfl W.heap.size 3 i0 (iN qi 0) 1 8 Tryz.underlying33 hi hz0 hz1 hz2 rfl (by decide) _ _ _ rfl (HO9.out.alloc _) ⟨wr.heap.size+1,0,none⟩ 1 1 [iN qi y] rfl rfl (HN.out y) (H1c.out y) Hb63.out Hbb.out (by simp only[World.size_alloc];exact Hsz.out) ?_)
    intro v' w4 hown' hgrow _;have R:=Bo HB9.out HO9.out hown' hgrow;rw[<-Hsn.out] at R;have HR:=lH R;clear hown' hgrow R;go_wp2;go_roundw
    case rel=>exact⟨k+1,by omega,by go_num,HR.out.1,HR.out.2⟩
    case measure=>simp[intOf];omega
  ·have hke:k=B.pairs.length:=by omega
   rw[hke] at Hown;have Hbk:=lH (HBW.out.trans (Hb.out.mono HBW.out.size));clear hke;go_wp2;go_ret;exact⟨_,rfl,Hown.out.base HBW.out.size,Hbk.out⟩
theorem c73 (h:Int) (t:Option aD) (n tc:Nat) (la:Option aD) (ln lc:Nat) (p:Option aD) (pn pc:Nat) (w:wD) (h1:1<=n) (hn:n<=1000000):
  Calls tP 62 #[.agg #[iN qi h,sL t n tc,sL la ln lc,sL p pn pc]] w fun e w'=>e= rT (iN qi ((n-1 :Nat):Int))/\bX w.heap.size w w':=by
 have hw:IntKind.wrap qi ((n:Int)-1)=((n-1 :Nat):Int):=(IntWalk.i64_in _ (by omega)).trans (by omega);go_enter Tryz.func62,Tryz.ntmps62;go_wp2;go_ret;exact⟨rfl,(bR _ _).alloc (nR _) _⟩
theorem alP {xs:List Int} {k:Nat} {x:Int} (hx:xs[k]? =some x):dN (xs.take (k+1))=(dN (xs.take k)|| !btw x 0 20):=by
 unfold dN;rw[List.take_add_one,hx,List.any_append];simp
theorem alQ {xs:List Int} {k:Nat} (h:dN (xs.take k)=true):dN xs=true:=by
 unfold dN at *;rw[List.any_eq_true] at *;obtain⟨x,hx,h2⟩:=h;exact⟨x,List.mem_of_mem_take hx,h2⟩
theorem c58 (V:BkV) (B:Bk) (xs:List Int) (xa:Option aD) (xc:Nat) (w:wD) (hs:aB w V B) (hz: ∀t∈B.towns,t.size<=1000000) (hx:SlI w xa xs) (hxl:xs.length<=1000000):
  Calls tP 55 #[V.val B,sL xa xs.length xc] w fun e w'=>e= rT (iN qi (aH B xs true))/\bX w.heap.size w w':=by
 obtain⟨ta,la,pa,tc,lc,pc⟩:=V;have hb0:bX w.heap.size w (w.alloc (cL #[iN qi B.hours,sL ta B.towns.length tc,sL la B.links.length lc,sL pa B.pairs.length pc] 26)):=(bR _ _).alloc (nR _) _;have HC:=lH (c20 ⟨ta,la,pa,tc,lc,pc⟩ B _ (hs.below hb0 (nR _)) hz);have HB0:=lH hb0;have HX:=lH hx;have HL:=lH hs.nl;clear hs hb0 hz hx;simp only[BkV.val];by_cases h0:B.alarm=0
 ·rw[h0] at HC;by_cases h1:xs.length=B.links.length
  ·have HR:Hid (aH B xs true=if dN xs then 1 else 0):=lH (by unfold aH;rw[if_pos h0,if_pos h1];rfl);generalize aH B xs true=R at *;clear h0;go_enter Tryz.func55,Tryz.ntmps55
   go_wp2_with fail
   refine HC.out.mono ?_;rintro e w1 ⟨rfl,hb1⟩;have HB1:=lH (HB0.out.trans (hb1.mono (by simp)));have k2:w1.cell? ⟨w.heap.size,2,none⟩=some (sL la xs.length lc):=by rw[(ak hb1).1 _ _ (by simp),h1];go_simp
   clear hb1 h1 HC HB0
   go_wp2_with fail
   go_loopw [6] (fun i wr=> ∃k:Nat,k<=xs.length/\i= iN qi (k:Int)/\dN (xs.take k)=false/\w1=wr) (fun i _=>xs.length-(intOf i).toNat)
   case atStart=>exact⟨0,Nat.zero_le _,rfl,rfl,rfl⟩
   case round=>
    obtain⟨k,hk,rfl,hfk,rfl⟩:=hrel;have Hfk:=lH hfk;clear hfk;by_cases hlt:k<xs.length
    ·have hx:xs[k]? =some xs[k]:=lG hlt;obtain⟨b,o,rfl,g00⟩:=HX.out k _ hx;have g0:=aoF HB1.out g00 (nR _);have Hbt:=lH (alP hx);clear hx g00;generalize xs[k]=x at *
     cases hno:btw x 0 20 with
     |false=>
      have HF:Hid (R=1):=lH (by rw[HR.out,alQ (k:=k+1) (by rw[Hbt.out,hno];simp),if_pos rfl])
      go_wp2_with (go_at_call 46;refine(gU _ _ _ _).mono ?_;rintro e w2 ⟨rfl,rfl⟩)
      go_ret;exact⟨by rw[HF.out]<;>rfl,HB1.out⟩
     |true=>
      have HF:Hid (dN (xs.take (k+1))=false):=lH (by rw[Hbt.out,Hfk.out,hno];rfl)
      go_wp2_with (go_at_call 46;refine(gU _ _ _ _).mono ?_;rintro e w2 ⟨rfl,rfl⟩)
      exact⟨⟨k+1,by omega,rfl,HF.out,trivial⟩,by simp[intOf];omega⟩
    ·have hke:xs.length<=k:=by omega
     have HF:Hid (R=0):=lH (by have h:=Hfk.out;rw[List.take_of_length_le hke] at h;rw[HR.out,h];rfl);go_wp2;go_ret;exact⟨by rw[HF.out]<;>rfl,HB1.out⟩
  ·have HR:Hid (aH B xs true=2):=lH (by unfold aH;rw[if_pos h0,if_neg h1]);generalize aH B xs true=R at *;clear h0;have hne: ¬(xs.length:Int)=(B.links.length:Int):=by omega
   go_enter Tryz.func55,Tryz.ntmps55
   go_wp2_with fail
   refine HC.out.mono ?_;rintro e w1 ⟨rfl,hb1⟩;have HB1:=lH (HB0.out.trans (hb1.mono (by simp)));have k2:w1.cell? ⟨w.heap.size,2,none⟩=some (sL la B.links.length lc):=by rw[(ak hb1).1 _ _ (by simp)];go_simp
   clear hb1 HC HB0;go_wp2;go_ret;exact⟨by rw[HR.out]<;>rfl,HB1.out⟩
 ·have HR:Hid (aH B xs true=B.alarm):=lH (by unfold aH;rw[if_neg h0]);generalize aH B xs true=R at *;generalize B.alarm=al at *;go_enter Tryz.func55,Tryz.ntmps55
  go_wp2_with fail
  refine HC.out.mono ?_;rintro e w1 ⟨rfl,hb1⟩;have HB1:=lH (HB0.out.trans (hb1.mono (by simp)));clear hb1 HC HB0;go_wp2;go_ret;exact⟨by rw[HR.out]<;>rfl,HB1.out⟩
theorem c94 (V:BkV) (B:Bk) (hB:B.Fine) (a b:Int) (w:wD) (hat:bT w V B):
  Calls tP 127 #[V.val B,iN qi a,iN qi b] w fun e w'=>e= rT (iN qi (B.direct a b))/\bX w.heap.size w w':=by
 obtain⟨ta,la,pa,tc,lc,pc⟩:=V;have hl:=hB.links;have ht:=hB.towns;unfold Bk.spokes at hl;have Hd0:Hid (B.direct a b=B.directFrom a b (B.links.length-(B.towns.length-1)) (B.towns.length-1)):=lH rfl;have h1:1<=B.towns.length:=by omega
 have h2:B.towns.length<=1000000:=by omega
 go_enter Tryz.func127,Tryz.ntmps127
 go_wp2_with (first | (go_at_call 62;refine(c73 _ _ _ _ _ _ _ _ _ _ _ h1 h2).mono ?_;rintro e w1 ⟨rfl,hb1⟩))
 have hx2:w1.cell? ⟨w.heap.size,2,none⟩=some (sL la B.links.length lc):=by rw[(ak hb1).1 _ _ (by simp)];go_simp
 have hbl:bX w.heap.size w w1:=((bR _ _).alloc (nR _) _).trans (hb1.mono (by simp));clear hb1;have HBL:=lH hbl
 go_loopw [7] (fun i wr=> ∃k:Nat,k<=B.links.length/\i= iN qi (k:Int)/\B.direct a b=B.directFrom a b (B.links.length-k) k/\w1=wr) (fun i _=>B.links.length-(intOf i).toNat)
 case atStart=>exact⟨B.towns.length-1,hl.1,rfl,Hd0.out,rfl⟩
 case round=>
  obtain⟨k,hk2,rfl,hdk,rfl⟩:=hrel;have Hdk:=lH hdk;clear hdk;by_cases hlt:k<B.links.length
  ·have hL:B.links[k]? =some B.links[k]:=lG hlt;obtain⟨lb,lo,sa,sc,g1,g2,g3,_,_⟩:=(hat.below hbl (nR _)).links _ _ hL;simp only at g1;subst g1;generalize hp:B.links[k].one=p at g2;generalize hr:B.links[k].two=r at g3;have HH:Hid (a=p->b=r->B.directFrom a b (B.links.length-k) k=k):=lH fun e1 e2=>OT hL hlt (e1.trans hp.symm) (e2.trans hr.symm);have HM:Hid (¬(a=p/\b=r)->B.directFrom a b (B.links.length-k) k=B.directFrom a b (B.links.length-(k+1)) (k+1)):=lH fun h=>OU hL hlt fun x=>h ⟨x.1.trans hp,x.2.trans hr⟩;clear hp hr hL;by_cases e1:p=a
   ·subst e1;by_cases e2:r=b
    ·subst e2;go_wp2;go_ret;exact⟨by rw[Hdk.out,HH.out (by simp) (by simp)];rfl,HBL.out⟩
    ·go_wp2;exact⟨⟨k+1,by omega,by go_num,by rw[Hdk.out];exact HM.out (fun x=>e2 x.2.symm),trivial⟩,by simp[intOf];omega⟩
   ·go_wp2;exact⟨⟨k+1,by omega,by go_num,by rw[Hdk.out];exact HM.out (fun x=>e1 x.1.symm),trivial⟩,by simp[intOf];omega⟩
  ·have hke:k=B.links.length:=by omega
   go_wp2;go_ret;refine⟨?_,HBL.out⟩;rw[Hdk.out,hke,Nat.sub_self];rfl
section
variable {P:Program} {ops:Array Oper} {Q:Exit->Act->wD->Prop} {z:Nat}
def Ywo (P:Program) (ops:Array Oper) (o:Oper) (v:vL) (a:Act) (w:wD):Prop:=
 (Region.wanted o (yielded ops a.tmps)=true/\(execOp a.eval o).run P w= .ok (.value v) w)\/(Region.wanted o (yielded ops a.tmps)=false/\v=undef)
theorem Ywo.wpOp {i:Nat} {o:Oper} {v:vL} {a:Act} {w:wD} (hi:ops[i]? =some o) (hy:Ywo P ops o v a w) {K:Act->wD->Prop} (h:K (a.put o.dst v) w):wpOp P ops Q i K a w:=by
 unfold Go.wpOp;simp only[hi]
 rcases hy with ⟨hw,hv⟩ |⟨hw,rfl⟩
 ·simp only[hw,if_true,Oper.wp,hv,Oper.upon];exact .inl h
 ·simp only[hw,Bool.false_eq_true,if_false];exact h
def LaB (P:Program) (ops:Array Oper) (Q:Exit->Act->wD->Prop) (z:Nat):Nat->Array Bool->Act->wD->Prop
 | 0,listed,a,w=>Region.ready .any ops listed= [z]/\Region.ready .any ops (listed.setIfInBounds z true)= []/\wpOp P ops Q z (fun a' w'=>Q .normal a' w') a w
 |n+1,listed,a,w=>Region.ready .any ops listed≠ []/\ ∀i∈Region.ready .any ops listed,∃o v,ops[i]? =some o/\Ywo P ops o v a w/\LaB P ops Q z n (listed.setIfInBounds i true) (a.put o.dst v) w
theorem ahf: ∀(n:Nat) (listed:Array Bool) (a:Act) (w:wD),LaB P ops Q z n listed a w->wpAny P .any ops Q (n+1) listed a w
  | 0,_,_,_,h=>⟨fun e=>(by rw[h.1] at e;cases e),fun i hi=>by
      rw[h.1,List.mem_singleton] at hi;subst hi;exact wpOp_mono (fun a' w' hq=>⟨h.2.1,hq⟩) h.2.2⟩
  |n+1,_,_,_,h=>⟨fun e=>absurd e h.1,fun i hi=>by
      obtain⟨o,v,ho,hy,h2⟩:=h.2 i hi;exact hy.wpOp ho (ahf n _ _ _ h2)⟩
def ahc (ops:Array Oper) (z:Nat):Bool:=(List.range ops.size).all fun j=>j==z||((ops[z]?).map fun o=>o.after.any fun e=>Region.binds .any e&&e.on==j).getD false
theorem ahm {i:Nat} {oi:Oper} {v:vL} (hi:ops[i]? =some oi) (hsel: ∀(j:Nat) (o:Oper) cs b,ops[j]? =some o->o.op≠ .select cs b) (hz:ahc ops z=true) (hiz:i≠z):
    ∀(n:Nat) (listed:Array Bool) (a:Act) (w:wD),
      (∀j oj,ops[j]? =some oj->j≠i->listed.getD j true=false->(∀e∈oj.after,Region.binds .any e=true->e.on≠i)->oi.apart ops oj=true)->
      i∈Region.ready .any ops listed->Ywo P ops oi v a w->LaB P ops Q z n (listed.setIfInBounds i true) (a.put oi.dst v) w->LaB P ops Q z (n+1) listed a w:=by
  intro n
  induction n with
  |zero=>
    intro listed a w _ hr hy H;refine⟨fun h=>(by rw[h] at hr;cases hr),fun j hj=> ?_⟩;by_cases hji:j=i
    · subst hji;exact⟨oi,v,hi,hy,H⟩
    · exfalso
      have h1:=ready_mono hj hji;rw[H.1,List.mem_singleton] at h1;subst h1;obtain⟨_,ozz,hoz,hall⟩:=mem_ready.1 hj;have hil:i<ops.size:=(aS.1 hi).1;unfold ahc at hz;rw[List.all_eq_true] at hz;have h2:=hz i (List.mem_range.2 hil);rw[hoz] at h2;simp only[Option.map_some,Option.getD_some,Bool.or_eq_true,beq_iff_eq] at h2
      rcases h2 with h2 |h2
      · exact hiz h2
      · rw[Array.any_eq_true] at h2
        obtain⟨k,hk,h3⟩:=h2;simp only[Bool.and_eq_true,beq_iff_eq] at h3;have h4:=hall _ (Array.getElem_mem hk) h3.1;rw[h3.2] at h4;have h5:=(mem_ready.1 hr).1
        rcases Nat.lt_or_ge i listed.size with h' |h'
        · simp[h'] at h4 h5;rw[h5] at h4;cases h4
        · simp[Array.getElem?_eq_none h'] at h4
  |succ n ih=>
    intro listed a w hfree hr hy H;refine⟨fun h=>(by rw[h] at hr;cases hr),fun j hj=> ?_⟩;by_cases hji:j=i
    · subst hji;exact⟨oi,v,hi,hy,H⟩
    · obtain⟨oj',vj,hoj',hyj,H2⟩:=H.2 j (ready_mono hj hji)
      obtain⟨hjun,oj,hoj,hall⟩:=mem_ready.1 hj;have e1:oj'=oj:=Option.some.inj (hoj'.symm.trans hoj);rw[e1] at hyj H2;have hnot: ∀e∈oj.after,Region.binds .any e=true->e.on≠i:=fun e he hb heq=>by
        have h1:=hall e he hb;have h0:=(mem_ready.1 hr).1;rw[heq] at h1
        rcases Nat.lt_or_ge i listed.size with h' |h'
        · simp[h'] at h0 h1;rw[h0] at h1;cases h1
        · simp[Array.getElem?_eq_none h'] at h1
      obtain⟨h1,h2,h3⟩:=Oper.apart_spec (hfree j oj hoj hji hjun hnot);have hyj':Ywo P ops oj vj a w:=by
        unfold Ywo at hyj ⊢;rw[wanted_put oj a oi.dst v h1,execOp_put oj (fun cs b=>hsel j oj cs b hoj) a oi.dst v h1] at hyj;exact hyj
      have hy':Ywo P ops oi v (a.put oj.dst vj) w:=by
        unfold Ywo at hy ⊢;rw[wanted_put oi a oj.dst vj h3,execOp_put oi (fun cs b=>hsel i oi cs b hi) a oj.dst vj h3];exact hy
      have hfree': ∀k ok,ops[k]? =some ok->k≠i->(listed.setIfInBounds j true).getD k true=false->
          (∀e∈ok.after,Region.binds .any e=true->e.on≠i)->oi.apart ops ok=true:=fun k ok hk hki hun hno=>by
        refine hfree k ok hk hki ?_ hno;by_cases hjk:j=k
        · subst hjk;exact hjun
        · rw[getD_set_ne true hjk] at hun;exact hun
      refine⟨oj,vj,hoj,hyj',ih (listed.setIfInBounds j true) (a.put oj.dst vj) w hfree' (ready_mono hr (Ne.symm hji)) hy' ?_⟩;rw[Array.setIfInBounds_comm _ _ hji,<-Act.put_comm a v vj h2];exact H2
theorem ag5 (i:Nat) {o:Oper} (v:vL) {n:Nat} {listed:Array Bool} {a:Act} {w:wD} (h:LaB P ops Q z n (listed.setIfInBounds i true) (a.put o.dst v) w) (ho:ops[i]? =some o:=by rfl) (hw:Region.wanted o (yielded ops a.tmps)=true:=by rfl) (hr:(execOp a.eval o).run P w= .ok (.value v) w:=by go_simp)
  (hs:Region.noSelect ops=true:=by kernel_rfl) (hf:Region.free .any ops listed i=true:=by kernel_rfl) (hc:(Region.ready .any ops listed).contains i=true:=by kernel_rfl) (hz:ahc ops z=true:=by kernel_rfl) (hiz:i≠z:=by decide):LaB P ops Q z (n+1) listed a w:=
 ahm ho (Region.noSelect_spec hs) hz hiz n listed a w (Region.free_spec ho hf) (by simpa using hc) (.inl ⟨hw,hr⟩) h
theorem ahn {id:Nat} {a:Act} {w:wD} (z n:Nat) (hm:P.follows .mixedOrders=true) (h:LaB P ops Q z n (Array.replicate (n+1) false) a {w with drawn:=w.drawn+1}) (hn:ops.size=n+1:=by rfl):(Code.region id ops true).wp P Q a w:=
 wp_region_any hm (by rw[hn];exact ahf n _ _ _ h)
end
structure LoR (w:wD) (la pa:Option aD) (B:Bk) (lc pc:Nat) (hours towns:vL) (f:Nat->Int) (wr:wD):Prop where
 below:bX w.heap.size w wr
 size:w.heap.size+2<=wr.heap.size
 b0:wr.cell? ⟨w.heap.size,0,none⟩=some hours
 b1:wr.cell? ⟨w.heap.size,1,none⟩=some towns
 b2:wr.cell? ⟨w.heap.size,2,none⟩=some (sL la B.links.length lc)
 b3:wr.cell? ⟨w.heap.size,3,none⟩=some (sL pa B.pairs.length pc)
 out: ∀j,j<B.links.length->wr.cell? ⟨w.heap.size+1,j,none⟩=some (iN qi (f j))/\wr.frozen? ⟨w.heap.size+1,j,none⟩=false
theorem LoR.step {w:wD} {la pa:Option aD} {B:Bk} {lc pc:Nat} {hours towns:vL} {f:Nat->Int} {wr w2:wD} (h:LoR w la pa B lc pc hours towns f wr) (hb:bX wr.heap.size wr w2):LoR w la pa B lc pc hours towns f w2:=by
 have hs:=h.size;obtain⟨hc,hf⟩:=ak hb;refine⟨h.below.trans (hb.mono (by omega)),Nat.le_trans h.size hb.size, ?_, ?_, ?_, ?_,fun j hj=> ?_⟩
 ·rw[hc _ _ (by omega)];exact h.b0
 ·rw[hc _ _ (by omega)];exact h.b1
 ·rw[hc _ _ (by omega)];exact h.b2
 ·rw[hc _ _ (by omega)];exact h.b3
 ·rw[hc _ _ (by omega),hf _ _ (by omega)];exact h.out j hj
theorem LoR.set {w:wD} {la pa:Option aD} {B:Bk} {lc pc:Nat} {hours towns:vL} {f:Nat->Int} {wr:wD} (h:LoR w la pa B lc pc hours towns f wr) (i:Nat) (v:Int):LoR w la pa B lc pc hours towns (fup f i v) (wr.setCell ⟨w.heap.size+1,i,none⟩ (iN qi v)):=by
 have hs:=h.size;have hne: ∀b o,b≠w.heap.size+1->(wr.setCell ⟨w.heap.size+1,i,none⟩ (iN qi v)).cell? ⟨b,o,none⟩=wr.cell? ⟨b,o,none⟩:=fun b o hb=>wO _ _ _ _ (by intro e;cases e;exact hb rfl);refine⟨h.below.trans ((bR _ _).setCell (by simp) _),by simpa using h.size, ?_, ?_, ?_, ?_,fun j hj=> ?_⟩
 ·rw[hne _ _ (by omega)];exact h.b0
 ·rw[hne _ _ (by omega)];exact h.b1
 ·rw[hne _ _ (by omega)];exact h.b2
 ·rw[hne _ _ (by omega)];exact h.b3
 ·rw[World.frozen?_setCell];refine⟨?_,(h.out j hj).2⟩;by_cases e:j=i
  ·subst e;rw[BZ];exact World.cell?_setCell_same _ _ _ (h.out j hj).1
  ·rw[dQ f v e,wO _ _ _ _ (by intro e';cases e';exact e rfl)];exact(h.out j hj).1
section
variable {f:FuncId} {ops:Array Oper} {kk:List Item} {R:vL->wD->Prop}
theorem acD {w u x:wD} (h:Kept w.heap.size w u) (k:Kept u.heap.size u x):Kept w.heap.size w x:=h.trans (k.mono h.size)
def YG (ops:Array Oper) (o:Oper) (v:vL) (a:Act) (w:wD):Prop:=
 (Region.wanted o (yielded ops a.tmps)=true/\ ∀u,Kept w.heap.size w u->(execOp a.eval o).run tP u= .ok (.value v) u)\/(Region.wanted o (yielded ops a.tmps)=false/\v=undef)
theorem YG.kept {o:Oper} {v:vL} {a:Act} {w w':wD} (h:YG ops o v a w) (hk:Kept w.heap.size w w'):YG ops o v a w':=by
 rcases h with ⟨h1,h2⟩ |h
 ·exact .inl ⟨h1,fun u hu=>h2 u (acD hk hu)⟩
 ·exact .inr h
def acv (K:vL->wD->Prop) (w:wD) (m:Sem Next):Prop:=
 (∃v,(∀τ,m.run tP (w.tp τ 0 noJ)= .ok (.value v) (w.tp τ 0 noJ))/\K v w)\/
 (∃S:vL->wD->Prop,(∀τ,∃v w',m.run tP (w.tp τ 0 noJ)= .ok (.value v) w'/\S v w')/\ ∀v w',S v w'->Kept w.heap.size w w'/\K v w')\/
 (∃g args R1,(∀u,m.run tP u= .ok (.enter g args) u)/\iK tP g args w R1/\ ∀v w',R1 v w'->Kept w.heap.size w w'/\K v w')
theorem acv.mono {w:wD} {m:Sem Next} {K K':vL->wD->Prop} (h: ∀v w',Kept w.heap.size w w'->K v w'->K' v w') (hh:acv K w m):acv K' w m:=by
 rcases hh with ⟨v,h1,h2⟩ |⟨S,h1,h2⟩ |⟨g,args,R1,h1,h2,h3⟩
 ·exact .inl ⟨v,h1,h v w (Kept.refl _ _) h2⟩
 ·exact .inr (.inl ⟨S,h1,fun v w' hv=>⟨(h2 v w' hv).1,h _ _ (h2 v w' hv).1 (h2 v w' hv).2⟩⟩)
 ·exact .inr (.inr ⟨g,args,R1,h1,h2,fun v w' hv=>⟨(h3 v w' hv).1,h _ _ (h3 v w' hv).1 (h3 v w' hv).2⟩⟩)
def OpG (ops:Array Oper) (i:Nat) (K:Act->wD->Prop) (a:Act) (w:wD):Prop:=
 match ops[i]? with
 |none=>False
 |some o=>if Region.wanted o (yielded ops a.tmps) then acv (fun v w'=>K (a.put o.dst v) w') w (execOp a.eval o) else K (a.put o.dst undef) w
theorem OpG.mono {i:Nat} {a:Act} {w:wD} {K K':Act->wD->Prop} (h: ∀a w,K a w->K' a w) (hh:OpG ops i K a w):OpG ops i K' a w:=by
 unfold OpG at *
 split
 ·simp_all
 ·rename_i o ho;simp only[ho] at hh
  split
  ·rename_i hw;simp only[hw,if_true] at hh;exact hh.mono fun _ _ _=>h _ _
  ·rename_i hw;simp only[hw] at hh;exact h _ _ hh
end
section
variable {f:FuncId} {N n d s t:Nat} {a:Act} {w:wD} {l:List (Nat×vL)} {ops:Array Oper} {listed:Array Bool} {i:Nat} {kk:List Item} {R:vL->wD->Prop} {o:Oper}
end
end Go.Proofs.YtaikibfkggglgaaGreatDoor
