/- A part of the proof of a law; no conditions of its own. -/
import Derived.Test.YtfiiffnbggnkfaaDoorAv15
import Derived.Maps.Views
import Derived.Lib.SliceRun
import Derived.Lib.AppendZeros
open Go renaming Addr→aD, Calls→cF, World→wD
open Go.RowKit renaming Below→bX
open Go.IntKind renaming i64→qi
open Go.Value renaming int→iN, slice→sL
open Go.Ending renaming returned→rT
open Go.Obj renaming cells→cL
set_option maxRecDepth 100000
open Go renaming undef→ud
open Nat renaming le_refl→nR
open Go.Lib renaming hid→lH
open Go.RowKit.Below renaming refl→bR
open Go.Proofs.Tryd renaming prog→tP
open List renaming getElem?_eq_getElem→lG
open List renaming getElem?_eq_some_iff→lS
open List renaming getD_eq_getElem?_getD→lD
open Nat renaming lt_of_lt_of_le→nL
set_option maxHeartbeats 4000000
namespace Go.Proofs.YtfiiffnbggnkfaaDoor
open Go.RowKit Go.Rent Go.Tp Go.Conc
def adv (st:List (Int×Int)) (n:Int):Nat->Nat->Nat
 | 0,s=>s
 |f+1,s=>match st[s+1]? with
  |some x=>if x.1<=n then adv st n f (s+1) else s
  |none=>s
def ji (st:List (Int×Int)) (s:Nat):Int:=((st[s]?).map (·.2)).getD 0
def bF (st:List (Int×Int)):Nat->Int×Nat
 | 0=>(0,0)
 |m+1=>let s:=adv st ((m:Int)+1) (st.length-(bF st m).2) (bF st m).2
  ((bF st m).1+ji st s,s)
theorem LZ (st:List (Int×Int)) (n:Int): ∀f s,s<st.length->adv st n f s<st.length
 | 0,s,h=>h
 |f+1,s,h=>by
  unfold adv
  cases e:st[s+1]? with
  |none=>exact h
  |some x=>
   dsimp only
   split
   ·exact LZ st n f (s+1) (lS.1 e).1
   ·exact h
theorem YT {st:List (Int×Int)} {n:Int} {s:Nat} {x:Int×Int} (e:st[s+1]? =some x) (h:x.1<=n):adv st n (st.length-s) s=adv st n (st.length-(s+1)) (s+1):=by
 have hl:=(lS.1 e).1;obtain⟨m,hm⟩: ∃m,st.length-s=m+1:=⟨st.length-s-1,by omega⟩;rw[hm,adv,e];dsimp only;rw[if_pos h,show st.length-(s+1)=m by omega]
theorem YU {st:List (Int×Int)} {n:Int} {s:Nat} {x:Int×Int} (e:st[s+1]? =some x) (h: ¬x.1<=n):adv st n (st.length-s) s=s:=by
 have hl:=(lS.1 e).1;obtain⟨m,hm⟩: ∃m,st.length-s=m+1:=⟨st.length-s-1,by omega⟩;rw[hm,adv,e];dsimp only;rw[if_neg h]
theorem YV {st:List (Int×Int)} {n:Int} {s:Nat} (h:st.length<=s+1):adv st n (st.length-s) s=s:=by
 cases hm:st.length-s with
 |zero=>rfl
 |succ m=>rw[adv,List.getElem?_eq_none h]
theorem Bq {st:List (Int×Int)} (hp: ∀x∈st,0<=x.2/\x.2<=99) (s:Nat):0<=ji st s/\ji st s<=99:=by
 unfold ji
 cases e:st[s]? with
 |none=>simp
 |some x=>simpa using hp x (List.mem_of_getElem? e)
theorem Ey {st:List (Int×Int)} (hp: ∀x∈st,0<=x.2/\x.2<=99) (h1:1<=st.length): ∀m,0<=(bF st m).1/\(bF st m).1<=99*m/\(bF st m).2<st.length
 | 0=>by simp[bF];omega
 |m+1=>by
  obtain⟨a,b,c⟩:=Ey hp h1 m;have hs:=LZ st ((m:Int)+1) (st.length-(bF st m).2) _ c;have:=Bq hp (adv st ((m:Int)+1) (st.length-(bF st m).2) (bF st m).2);unfold bF;dsimp only;refine⟨by omega,by omega,hs⟩
theorem YW (st:List (Int×Int)) (sa:Option aD) (cap:Nat) (one two:Int) (n:Nat) (w:wD) (hs:SlB w sa st) (h1:1<=st.length) (h3:st.length<=1000000) (hp: ∀x∈st,0<=x.2/\x.2<=99) (hn:n<=1000):
  cF tP 77 #[.agg #[iN qi one,iN qi two,sL sa st.length cap],iN qi (n:Int)] w fun e w'=>e= rT (iN qi (bF st n).1)/\bX w.heap.size w w':=by
 have Hs:=lH hs;have Hp:=lH hp;clear hs hp;go_enter Tryd.func77,Tryd.ntmps77
 go_wp2_with fail
 generalize hWd:w.alloc (cL #[iN qi one,iN qi two,sL sa st.length cap] 79)=W;have hc2:W.cell? ⟨w.heap.size,2,none⟩=some (sL sa st.length cap):=by subst hWd;go_simp
 have hBW:bX w.heap.size w W:=by subst hWd;exact(bR _ _).alloc (nR _) _
 have HsW:=lH (Hs.out.below hBW (nR _));have HBW:=lH hBW;clear hWd hBW Hs
 go_loopw [5,6,7] (fun b s i wr=> ∃m:Nat,m<=n/\i= iN qi ((m:Int)+1)/\b= iN qi (bF st m).1/\s= iN qi ((bF st m).2:Int)/\wr=W) (fun _ _ i _=>n+1-(intOf i).toNat)
 case atStart=>exact⟨0,Nat.zero_le _,rfl,rfl,rfl,rfl⟩
 case round=>
  obtain⟨m,hm,rfl,rfl,rfl,rfl⟩:=hrel;by_cases hlt:m<n
  ·have hlt':(m:Int)+1<=(n:Int):=by omega
   obtain⟨bd0,bd1,bd2⟩:=Ey Hp.out h1 m;have HS:Hid (bF st (m+1)=((bF st m).1+ji st (adv st ((m:Int)+1) (st.length-(bF st m).2) (bF st m).2),adv st ((m:Int)+1) (st.length-(bF st m).2) (bF st m).2)):=lH rfl;generalize (bF st m).1=bill at *;generalize (bF st m).2=s0 at *
   go_wp2_with fail
   go_loopw [6] (fun i wr2=> ∃s:Nat,s<st.length/\i= iN qi (s:Int)/\adv st ((m:Int)+1) (st.length-s0) s0=adv st ((m:Int)+1) (st.length-s) s/\wr2=wr) (fun i _=>st.length-(intOf i).toNat)
   case atStart=>exact⟨s0,bd2,rfl,rfl,rfl⟩
   case round=>
    obtain⟨s,hsl,rfl,hadv,rfl⟩:=hrel;have HA:=lH hadv;clear hadv;by_cases hs1:s+1<st.length
    ·have hx:st[s+1]? =some st[s+1]:=lG hs1;obtain⟨b,o,rfl,g0,g1⟩:=HsW.out (s+1) _ hx;have Hx:=lH hx;generalize st[s+1]=x at *;clear hx;have hs1':(s:Int)+1<(st.length:Int):=by omega
     have hs0':(0 :Int)<=(s:Int)+1:=by omega
     have htn:((s:Int)+1).toNat=s+1:=by omega
     by_cases hle:x.1<=(m:Int)+1
     ·have HH:=lH (HA.out.trans (YT Hx.out hle));obtain⟨x1,x2⟩:=x;simp only at g0 g1 hle;go_wp2;exact⟨⟨s+1,hs1,rfl,HH.out,trivial⟩,by simp[intOf];omega⟩
     ·have HH:=lH (HA.out.trans (YU Hx.out hle));have hys:st[s]? =some st[s]:=lG hsl;obtain⟨b2,o2,e2,k0,k1⟩:=HsW.out s _ hys
      cases e2
      have hpr:ji st s=st[s].2:=by unfold ji;rw[hys];rfl
      have hpb:=Bq Hp.out s;rw[<-hpr] at k1;have hN:Hid (bF st (m+1)=(bill+ji st s,s)):=lH (by rw[HS.out,HH.out]);have hss0:(0 :Int)<=(s:Int):=Int.natCast_nonneg _;have hss1:(s:Int)<(st.length:Int):=by omega
      clear hpr hys k0;generalize ji st s=pr at *;have hwr:IntKind.wrap qi (bill+pr)=bill+pr:=IntWalk.i64_in _ (by omega);go_wp2;refine⟨⟨m+1,by omega,by go_num, ?_, ?_,trivial⟩,by simp[intOf];omega⟩
      ·rw[hN.out]
      ·rw[hN.out]
    ·have hs1': ¬(s:Int)+1<(st.length:Int):=by omega
     have HH:=lH (HA.out.trans (YV (by omega)));have hys:st[s]? =some st[s]:=lG hsl;obtain⟨b2,o2,e2,k0,k1⟩:=HsW.out s _ hys;subst e2;have hpr:ji st s=st[s].2:=by unfold ji;rw[hys];rfl
     have hpb:=Bq Hp.out s;rw[<-hpr] at k1;have hN:Hid (bF st (m+1)=(bill+ji st s,s)):=lH (by rw[HS.out,HH.out]);have hss0:(0 :Int)<=(s:Int):=Int.natCast_nonneg _;have hss1:(s:Int)<(st.length:Int):=by omega
     clear hpr hys k0;generalize ji st s=pr at *;have hwr:IntKind.wrap qi (bill+pr)=bill+pr:=IntWalk.i64_in _ (by omega);go_wp2;refine⟨⟨m+1,by omega,by go_num, ?_, ?_,trivial⟩,by simp[intOf];omega⟩
     ·rw[hN.out]
     ·rw[hN.out]
  ·have hme:m=n:=by omega
   subst hme;go_wp2;go_ret;exact⟨rfl,HBW.out⟩
end Go.Proofs.YtfiiffnbggnkfaaDoor
namespace Go.Proofs.YtfiiffnbggnkfaaDoor
open Go.RowKit Go.Rent Go.Maps Go.Conc
theorem Mc:(134 :TypeId)<tP.types.size:=of_decide_eq_true (by kernel_rfl)
theorem Bv:Keyed tP 134:=Keyed.of_law (deep_law_laid (by kernel_rfl) (m:=2) (by omega) Mc (by kernel_rfl) (by rw[Tryd.underlying134]))
theorem YX:tP.keyType 134=true:=by kernel_rfl
theorem YZ:tP.cellsOf 134=2:=by kernel_rfl
theorem qQ {a b:Int} (ha:bD a) (hb:bD b):keyOf tP 134 (jq a b)=some (.string (keyBytes [.int qi a,.int qi b])):=
 Gw Tryd.underlying134 Tryd.underlying3 rfl rfl rfl rfl (by decide) (by decide) YX YZ co3 (Nat.lt_of_le_of_lt (Nat.zero_le _) Mc) ha hb
theorem zero3 (w:wD):(zeroValue 3).run tP w= .ok (iN qi 0) w:=by kernel_rfl
noncomputable abbrev Za:Value->Option (DataW Unit×List MemPlace):=plainElem tP 3
def aO (w:wD) (b n:Nat) (C:Int->Int->Int):Prop:=
 ∃D:DataW Unit,w.ownsMap tP 134 Za b n D/\ ∀(x y:Int) (kl:Lit),keyOf tP 134 (jq x y)=some kl->Maps.has D kl=true->D.atKey kl (.lit (.int qi 0))= .lit (.int qi (C x y))
theorem aO.made (w:wD) (C:Int->Int->Int):aO (w.alloc (.map #[] 0)) w.heap.size 0 C:=⟨.map [],World.ownsMap_made w _ _ _,fun _ _ _ _ h=>by simp[Maps.has] at h⟩
theorem aO.kept {w w':wD} {b n:Nat} {C:Int->Int->Int} (h:aO w b n C) {row:Option Nat} (hg:w.grownBy w' row) (hne:some b≠row):aO w' b n C:=by
 obtain⟨D,h1,h2⟩:=h;exact⟨D,h1.kept hg hne,h2⟩
theorem aO.below {w w':wD} {b n m:Nat} {C:Int->Int->Int} (h:aO w b n C) (hb:bX m w w') (hm:b<m):aO w' b n C:=by
 obtain⟨D,⟨es,cl,h1,h3⟩,h2⟩:=h;exact⟨D,⟨es,cl,by rw[hb.block b hm];exact h1,h3⟩,h2⟩
theorem aO.lt {w:wD} {b n:Nat} {C:Int->Int->Int} (h:aO w b n C):b<w.heap.size:=by obtain⟨D,h1,_⟩:=h;exact h1.lt
theorem aO.mono {w:wD} {b n n':Nat} {C:Int->Int->Int} (h:aO w b n C) (hn:n<=n'):aO w b n' C:=by obtain⟨D,h1,h2⟩:=h;exact⟨D,h1.mono hn,h2⟩
theorem aO.look {w:wD} {b n:Nat} {C:Int->Int->Int} (h:aO w b n C) {x y:Int} (hx:bD x) (hy:bD y):
  ∃(c:Int) (t:Bool),(Instr.lookup 110 (.map (some b)) (jq x y) true).run tP w= .ok (.tuple #[iN qi c,.bool t]) w/\(t=true->c=C x y):=by
 obtain⟨D,h1,h2⟩:=h;obtain⟨v,ps,hrun,hv⟩:=h1.look_ok Bv Tryd.underlying110 (zero3 w) (plainElem_int Tryd.underlying3 (by decide)) (qQ hx hy);obtain⟨c,rfl,hc,hwc⟩:=plainElem_int_inv Tryd.underlying3 hv;refine⟨c,_,hrun,fun ht=> ?_⟩;have:=h2 x y _ (qQ hx hy) ht;have hc1:=congrArg Prod.fst hc;simp only at hc1;rw[this] at hc1
 cases hc1;rfl
theorem aO.update {w:wD} {b n:Nat} {C:Int->Int->Int} (h:aO w b n C) (hn:n<maxLen) {x y:Int} (hx:bD x) (hy:bD y) (hc:bD (C x y)):
  ∃w',(Instr.mapUpdate 110 (.map (some b)) (jq x y) (iN qi (C x y))).run tP w= .ok () w'/\aO w' b (n+1) C/\w.grownBy w' (some b):=by
 obtain⟨D,h1,h2⟩:=h;obtain⟨w',hrun,hown,hg⟩:=h1.update Bv Tryd.underlying110 hn (qQ hx hy) (plainElem_int Tryd.underlying3 (wf_i64 hc));refine⟨w',hrun,⟨_,hown,fun p q kl hkl hh=> ?_⟩,hg⟩;by_cases e:(x==p&&y==q)=true
 ·have e':x=p/\y=q:=by simpa using e
  obtain⟨rfl,rfl⟩:=e';rw[qQ hx hy] at hkl
  cases hkl
  rw[atKey_put_same h1.isMap (Bv.key (qQ hx hy))]
 ·have hne:kl≠ .string (keyBytes [.int qi x,.int qi y]):=fun e2=>e (by
   subst e2;have:=Bv.inj (qQ hx hy) hkl;simp only[Value.agg.injEq,Array.mk.injEq,List.cons.injEq,Value.int.injEq,true_and,and_true] at this;simp[this])
  rw[has_put_other hne] at hh;rw[atKey_put_other hne,h2 p q kl hkl hh]
theorem Zb {C:Int->Int->Int} {w:wD} {ops:Array Oper} {rest:List Oper} {o:Oper} {a:Act} {Q:Exit->Act->wD->Prop}
  (hg:o.guard=none) (m x:Operand) (hop:o.op=Op.lookup 110 m x true) (b n:Nat) (hm:a.eval m= .map (some b)) (p q:Int) (hx:a.eval x=jq p q) (hown:aO w b n C) (hp:bD p) (hq:bD q)
  (hT:wpList tP ops Q rest (a.put o.dst (.tuple #[iN qi (C p q),.bool true])) w) (hF: ∀c:Int,wpList tP ops Q rest (a.put o.dst (.tuple #[iN qi c,.bool false])) w):wpList tP ops Q (o::rest) a w:=by
 refine wpList_plain hg fun K' hK'=> ?_;obtain⟨c,t,hrun,hc⟩:=hown.look hp hq;unfold Oper.wp;simp[execOp,hop,hm,hx,hrun,Result.andThen];refine hK' _ _ ?_
 cases t with
 |true=>rw[hc rfl];exact hT
 |false=>exact hF c
theorem Zc {C:Int->Int->Int} {w:wD} {ops:Array Oper} {rest:List Oper} {o:Oper} {a:Act} {Q:Exit->Act->wD->Prop}
  (hg:o.guard=none) (m x v:Operand) (hop:o.op=Op.mapUpdate 110 m x v) (b n:Nat) (hm:a.eval m= .map (some b)) (p q:Int) (hx:a.eval x=jq p q) (hv:a.eval v= iN qi (C p q)) (hown:aO w b n C) (hn:n<maxLen) (hp:bD p) (hq:bD q) (hc:bD (C p q))
  (hK: ∀w',aO w' b (n+1) C->w.grownBy w' (some b)->wpList tP ops Q rest (a.put o.dst ud) w'):wpList tP ops Q (o::rest) a w:=by
 refine wpList_plain hg fun K' hK'=> ?_;obtain⟨w',hrun,h1,h2⟩:=hown.update hn hp hq hc;unfold Oper.wp;simp[execOp,hop,hm,hx,hv,hrun,Result.andThen];exact hK' _ _ (hK w' h1 h2)
def bH (B:Bk) (i t:Int):Int:=(bF (((B.links[i.toNat]?).map (·.steps)).getD []) t.toNat).1
def fZ (B:Bk) (T:Nat->Int):Nat->Int
 | 0=>0
 |k+1=>fZ B T k+bH B (k:Int) (T k)
theorem c81 (V:BkV) (B:Bk) (w:wD) (C:Int->Int->Int):cF tP 56 #[V.val B] w fun e w'=> ∃mb,e= rT (.agg #[iN qi B.hours,sL V.ta B.towns.length V.tc,sL V.la B.links.length V.lc,sL V.pa B.pairs.length V.pc,.map (some mb)])/\w.heap.size<=mb/\aO w' mb 0 C/\bX w.heap.size w w':=by
 obtain⟨ta,la,pa,tc,lc,pc⟩:=V;have hmm:= @run_makeMap tP;go_enter Tryd.func56,Tryd.ntmps56;go_wp2;refine bodyPost_ret (v:= .agg #[iN qi B.hours,sL ta B.towns.length tc,sL la B.links.length lc,sL pa B.pairs.length pc,.map (some (w.heap.size+1+1))]) (by simp[results,Tryd.results56,go_sem]) rfl ⟨_,rfl,by omega, ?_,(((bR _ _).alloc (nR _) _).alloc (by simp) _).alloc (by simp;omega) _⟩;have:=aO.made ((w.alloc (cL #[iN qi B.hours,sL ta B.towns.length tc,sL la B.links.length lc,sL pa B.pairs.length pc] 81)).alloc (cL #[iN qi B.hours,sL ta B.towns.length tc,sL la B.links.length lc,sL pa B.pairs.length pc,.map (some (w.heap.size+1+1))] 112)) C;simpa using this
theorem Ez {l:List (Int×Int)} (h:bJ l=0): ∀x∈l,0<=x.2/\x.2<=99:=by
 unfold bJ at h
 cases hb:btw (l.length:Int) 1 3 with
 |false=>rw[hb] at h;cases h
 |true=>
  rw[hb,if_pos rfl] at h;have key: ∀(l:List (Int×Int)) (q:Int) (i:Nat),bY q i l=0-> ∀x∈l,0<=x.2/\x.2<=99:=by
   intro l
   induction l with
   |nil=>intro q i _ x hx;cases hx
   |cons y l ih=>
    intro q i h x hx;unfold bY at h
    split at h
    ·cases h
    ·split at h
     ·cases h
     ·rename_i h1 h2
      rcases List.mem_cons.1 hx with rfl |hx
      ·have:btw x.2 0 99=true:=by
        cases e:btw x.2 0 99 with
        |true=>rfl
        |false=>exact absurd (Or.inr e) h2
       exact fK this
      ·exact ih _ _ h x hx
  exact key l 0 0 h
theorem Md {B:Bk} (hB:Good B) (i t:Int) (ht:t<=30):0<=bH B i t/\bH B i t<=2970:=by
 unfold bH
 cases e:B.links[i.toNat]? with
 |none=>
  have: ∀m,(bF [] m).1=0:=fun m=>by
   induction m with
   |zero=>rfl
   |succ m ih=>unfold bF;dsimp only;rw[ih];simp[ji]
  simp[this]
 |some L=>
  have hst:=(hB.links _ L e).2.2.2;have:=Ey (Ez hst) (hB.steps _ L e) t.toNat;simp only[Option.map_some,Option.getD_some];omega
def bC (w w':wD):Prop:= ∀b o v,w.cell? ⟨b,o,none⟩=some v->w'.cell? ⟨b,o,none⟩=some v
theorem bC.of_below {w w':wD} {n:Nat} (h:bX n w w') (hn:w.heap.size<=n):bC w w':=fun _ _ _ hc=>aoF h hc hn
theorem bC.of_grown {w w':wD} {mb n:Nat} {C:Int->Int->Int} (h:w.grownBy w' (some mb)) (hm:aO w mb n C):bC w w':=fun b o v hc=>by
 have hne:b≠mb:=by
  rintro rfl;obtain⟨D,⟨es,cl,h1,_⟩,_⟩:=hm;simp[World.cell?,h1] at hc
 have hl:=World.block_lt_of_cell? w _ hc;rw[World.cell?_of_block (w:=w) (a:=⟨b,o,none⟩) (h.block b hl (by simpa using hne))];exact hc
theorem bC.trans {a b c:wD} (h:bC a b) (k:bC b c):bC a c:=fun _ _ _ hc=>k _ _ _ (h _ _ _ hc)
theorem jr.cells {w w':wD} {la:Option aD} {ls:List Lnk} (h:jr w la ls) (k:bC w w'):jr w' la ls:=fun i L hi=>by
 obtain⟨b,o,sa,sc,h1,h2,h3,h4,h5,h6⟩:=h i L hi;exact⟨b,o,sa,sc,h1,k _ _ _ h2,k _ _ _ h3,k _ _ _ h4,fun j x hj=>by obtain⟨b,o,e,h0,h1⟩:=h5 j x hj;exact⟨b,o,e,k _ _ _ h0,k _ _ _ h1⟩,h6⟩
theorem SlI.cells {w w':wD} {sa:Option aD} {xs:List Int} (h:SlI w sa xs) (k:bC w w'):SlI w' sa xs:=fun i x hx=>by
 obtain⟨b,o,e,h0⟩:=h i x hx;exact⟨b,o,e,k _ _ _ h0⟩
theorem grown_below {a w w':wD} {row:Option Nat} (h:a.grownBy w row) (hb:bX w.heap.size w w'):a.grownBy w' row:=⟨hb.os.trans h.os,hb.tape.trans h.tape,hb.output.trans h.output,Nat.le_trans h.size hb.size,fun k hk hne=>(hb.block k (nL hk h.size)).trans (h.block k hk hne)⟩
theorem Me {a w w':wD} {row:Option Nat} (h:a.grownBy w row) (hb:w.grownBy w' row):a.grownBy w' row:=⟨hb.os.trans h.os,hb.tape.trans h.tape,hb.output.trans h.output,Nat.le_trans h.size hb.size,fun k hk hne=>(hb.block k (nL hk h.size) hne).trans (h.block k hk hne)⟩
theorem EC (w:wD) (row:Option Nat):w.grownBy w row:=⟨rfl,rfl,rfl,nR _,fun _ _ _=>rfl⟩
theorem ED {B:Bk} (hB:Good B) {T:Nat->Int} (hT: ∀k,0<=T k/\T k<=30): ∀k,0<=fZ B T k/\fZ B T k<=2970*k
 | 0=>by simp[fZ]
 |k+1=>by
  have ih:=ED hB hT k;have:=Md hB (k:Int) (T k) (hT k).2;unfold fZ;omega
theorem c82 (V:BkV) (B:Bk) (hB:Good B) (xs:List Int) (xa:Option aD) (xc mb n:Nat) (w:wD) (hs:aB w V B) (hx:SlI w xa xs) (hxl:xs.length=B.links.length) (hbx: ∀k,0<=trk xs k/\trk xs k<=30) (hn:n+6<maxLen) (hm:aO w mb n (bH B)):
  cF tP 57 #[.agg #[iN qi B.hours,sL V.ta B.towns.length V.tc,sL V.la B.links.length V.lc,sL V.pa B.pairs.length V.pc,.map (some mb)],sL xa xs.length xc] w
   fun e w'=>e= rT (iN qi (fZ B (trk xs) xs.length))/\aO w' mb (n+6) (bH B)/\w.grownBy w' (some mb):=by
 obtain⟨ta,la,pa,tc,lc,pc⟩:=V;have HB:=lH hB;have HS:=lH hs;have HX:=lH hx;have HM:=lH hm;have Hbx:=lH hbx;have Hl:=lH hB.fine.links;have Ht:=lH hB.fine.towns;have HXL:=lH hxl;rw[hxl];clear hB hs hx hm hbx hxl;go_enter Tryd.func57,Tryd.ntmps57
 go_wp2_with fail
 generalize hWd:w.alloc (cL #[iN qi B.hours,sL ta B.towns.length tc,sL la B.links.length lc,sL pa B.pairs.length pc,.map (some mb)] 112)=W;have hBW:bX w.heap.size w W:=by subst hWd;exact(bR _ _).alloc (nR _) _
 have hc0:W.cell? ⟨w.heap.size,2,none⟩=some (sL la B.links.length lc)/\W.cell? ⟨w.heap.size,4,none⟩=some (.map (some mb)):=by subst hWd;exact⟨by go_simp,by go_simp⟩
 have HC0:=lH hc0;have HMW:=lH (HM.out.below hBW HM.out.lt);have HKW:=lH (bC.of_below hBW (nR _));have HBW:=lH hBW;clear hWd hBW hc0
 go_loopw [5,13] (fun b i wr=> ∃k:Nat,k<=B.links.length/\i= iN qi (k:Int)/\b= iN qi (fZ B (trk xs) k)/\aO wr mb (n+k) (bH B)/\W.grownBy wr (some mb)) (fun _ i _=>B.links.length-(intOf i).toNat)
 case atStart=>exact⟨0,Nat.zero_le _,rfl,rfl,HMW.out,EC _ _⟩
 case round=>
  obtain⟨k,hk,rfl,rfl,hbill,hgr⟩:=hrel;have HBl:=lH hbill;have HGr:=lH hgr;clear hbill hgr;by_cases hlt:k<B.links.length
  ·have hck:=bC.of_grown HGr.out HMW.out;have hk0:=hck _ _ _ HC0.out.1;have hk4:=hck _ _ _ HC0.out.2;obtain⟨tb,tofs,rfl,htk⟩:=oL (HX.out.cells (HKW.out.trans hck)) (k:=k) (by rw[HXL.out];exact hlt);have hL:B.links[k]? =some B.links[k]:=lG hlt;obtain⟨lb,lo,sa,sc,rfl,g0,g1,g2,g3,g4⟩:=(HS.out.links.cells (HKW.out.trans hck)) k _ hL;have hco: ∀t:Int,bH B (k:Int) t=(bF (B.links[k]).steps t.toNat).1:=fun t=>by unfold bH;rw[Int.toNat_natCast,hL];rfl
   obtain⟨t,ht⟩: ∃t:Nat,trk xs k=(t:Int):=⟨(trk xs k).toNat,by have:=Hbx.out k;omega⟩;have hst:=(HB.out.links _ _ hL).2.2.2;have hs1:=HB.out.steps _ _ hL;have ht20:t<=30:=by have:=Hbx.out k;omega
   have HUp:Hid (fZ B (trk xs) (k+1)=fZ B (trk xs) k+bH B (k:Int) (t:Int)):=lH (by rw[<-ht];rfl);have hco1:=hco t;rw[Int.toNat_natCast] at hco1;have HCo:=lH hco1;have Hcb:=lH (Md HB.out (k:Int) (t:Int) (by omega));have Hub:=lH (ED HB.out Hbx.out k);have Hpr:=lH (Ez hst);have Hs1:=lH hs1;have Hg3:=lH g3;have Hg4:=lH g4;rw[ht] at htk;clear hst hco hco1 ht g3 g4 hs1;generalize B.links[k].steps=st at *;generalize B.links[k].one=l1 at *;generalize B.links[k].two=l2 at *;clear hL;have ik:bD (k:Int):=by unfold bD;have:=Hl.out;omega
   have it:bD (t:Int):=by unfold bD;omega
   have Hik:=lH ik;have Hit:=lH it;have hb1: ∀o:Obj,bX wr.heap.size wr (wr.alloc o):=fun o=>(bR _ _).alloc (nR _) _;have Hb1:=lH hb1;have hkk:=bC.of_below (hb1 (cL #[iN qi (k:Int),iN qi (t:Int)] 134)) (nR _);have j0:=hkk _ _ _ hk0;have j4:=hkk _ _ _ hk4;have e0:=hkk _ _ _ g0;have e1:=hkk _ _ _ g1;have e2:=hkk _ _ _ g2;clear ik it hb1 hck hkk hk0 hk4 g0 g1 g2;have HWd:=HUp.out;generalize hcv:bH B (k:Int) (t:Int)=cv at *;generalize hup:fZ B (trk xs) k=up at *;have hk6:k<6:=by have:=Hl.out;omega
   obtain⟨cb0,cb1⟩:=Hcb.out;have ub0:0<=up:=Hub.out.1;have ub1:up<=17820:=by have:=Hub.out.2;omega
   have Hcv:=lH hcv;clear hcv hup HWd
   go_wp2_with (at_lookup;refine Zb rfl _ _ rfl mb (n+k) rfl (k:Int) (t:Int) rfl (HBl.out.below (Hb1.out _) HBl.out.lt) Hik.out Hit.out ?_ ?_)
   ·rw[Hcv.out];go_wp2;go_roundw
    case rel=>exact⟨k+1,by omega,by go_num,by rw[HUp.out];rw[show RowKit.wrap64 (up+cv)=up+cv from IntWalk.wrap64_in _ (by omega)],(HBl.out.below (Hb1.out _) HBl.out.lt).mono (by omega),grown_below HGr.out (Hb1.out _)⟩
    case measure=>simp[intOf];omega
   ·intro c0
    go_wp2_with fail
    have hst2:SlB (wr.alloc (cL #[iN qi (k:Int),iN qi (t:Int)] 134)) sa st:=Hg3.out.below (Hb1.out _) (nR _);refine(YW st sa sc l1 l2 t _ hst2 Hs1.out Hg4.out Hpr.out (by omega)).mono ?_;rintro e w3 ⟨rfl,hb3⟩;rw[<-HCo.out];have j4':=bC.of_below hb3 (nR _) _ _ _ j4;have kk0:w3.cell? ⟨wr.heap.size,0,none⟩=some (iN qi (k:Int)):=bC.of_below hb3 (nR _) _ _ _ (by go_simp);have kk1:w3.cell? ⟨wr.heap.size,1,none⟩=some (iN qi (t:Int)):=bC.of_below hb3 (nR _) _ _ _ (by go_simp);have HB3:=lH ((HBl.out.below (Hb1.out _) HBl.out.lt).below hb3 (by have:=HBl.out.lt;simp;omega));have HG3:=lH (grown_below (grown_below HGr.out (Hb1.out _)) hb3);have hic:bD (bH B (k:Int) (t:Int)):=by rw[Hcv.out];unfold bD;omega
    have Hic:=lH hic;clear hb3 hic j0 j4 e0 e1 e2 hst2;have hcv2:(bF st t).1=cv:=by rw[<-HCo.out]
    go_wp2_with (at_mapUpdate;refine Zc (C:=bH B) rfl _ _ _ rfl mb (n+k) rfl (k:Int) (t:Int) rfl (by rw[Hcv.out];rfl) HB3.out (by omega) Hik.out Hit.out Hic.out ?_;intro w4 hb4 hg4)
    have HB4:=lH hb4;have HG4:=lH (Me HG3.out hg4);clear hb4 hg4;go_wp2;go_roundw
    case rel=>exact⟨k+1,by omega,by go_num,by rw[HUp.out],HB4.out,HG4.out⟩
    case measure=>simp[intOf];omega
  ·have hke:k=B.links.length:=by omega
   subst hke;go_wp2;go_ret;refine⟨rfl,HBl.out.mono (by have:=Hl.out;omega), ?_⟩;exact⟨HGr.out.os.trans HBW.out.os,HGr.out.tape.trans HBW.out.tape,HGr.out.output.trans HBW.out.output,Nat.le_trans HBW.out.size HGr.out.size,fun i hi hne=>(HGr.out.block i (nL hi HBW.out.size) hne).trans (HBW.out.block i hi)⟩
end Go.Proofs.YtfiiffnbggnkfaaDoor
namespace Go.Proofs.YtfiiffnbggnkfaaDoor
open Go.RowKit Go.Rent Go.Tp Go.Conc
def oM (B:Bk) (xs:List Int):Value:=if aH B xs true=0 then .tuple #[iN qi (fZ B (trk xs) xs.length),iN qi 0] else .tuple #[iN qi 0,iN qi (aH B xs true)]
theorem below_of_grown {w w1 w2:wD} {mb:Nat} (hb:bX w.heap.size w w1) (hg:w1.grownBy w2 (some mb)) (hm:w.heap.size<=mb):bX w.heap.size w w2:=hb.grown hg hb.size (fun k hk=>by cases hk;exact hm)
theorem c40 (V:BkV) (B:Bk) (xs:List Int) (xa:Option aD) (xc:Nat) (w:wD) (hs:aB w V B) (hv:Vars w) (hx:SlI w xa xs) (hxl:xs.length<=1000000):
  cF tP 25 #[V.val B,sL xa xs.length xc] w fun e w'=>e= rT (oM B xs)/\bX w.heap.size w w':=by
 obtain⟨ta,la,pa,tc,lc,pc⟩:=V;have hb0:bX w.heap.size w (w.alloc (cL #[iN qi B.hours,sL ta B.towns.length tc,sL la B.links.length lc,sL pa B.pairs.length pc] 26)):=(bR _ _).alloc (nR _) _;have HC:=lH (c55 ⟨ta,la,pa,tc,lc,pc⟩ B xs xa xc true _ (hs.below hb0 (nR _)) (hv.v2.below hb0 (nR _)) (hx.below hb0 (nR _)) hxl);have HB0:=lH hb0;have HS:=lH hs;have HX:=lH hx;by_cases hok:aH B xs true=0
 ·obtain⟨h0,h1,h2⟩:=nN hok;have HG:=lH (gY h0);have H1:=lH h1;have H2:=lH h2;have HE:=lH (show oM B xs= .tuple #[iN qi (fZ B (trk xs) xs.length),iN qi 0] by unfold oM;rw[if_pos hok]);clear hs hv hx hb0 h0 h1 h2;go_enter Tryd.func25,Tryd.ntmps25
  go_wp2_with fail
  refine HC.out.mono ?_;rintro e w1 ⟨rfl,hb1⟩;rw[hok,jE];have Hbw:=lH (HB0.out.trans (hb1.mono (by simp)));clear hb1 HC;have hb2: ∀o:Obj,bX w.heap.size w (w1.alloc o):=fun o=>Hbw.out.alloc Hbw.out.size o
  go_wp2_with fail
  refine(c81 ⟨ta,la,pa,tc,lc,pc⟩ B _ (bH B)).mono ?_;rintro e w2 ⟨mb,rfl,hmb,hbill,hb3⟩;have hb4:=(hb2 _).trans (hb3.mono (hb2 _).size);have Hb4:=lH hb4;have Hmb:Hid (w.heap.size<=mb):=lH (Nat.le_trans (hb2 _).size hmb);have HBl:=lH hbill;clear hb2 hb3 hb4 hbill hmb
  go_wp2_with fail
  refine(c82 ⟨ta,la,pa,tc,lc,pc⟩ B HG.out xs xa xc mb 0 w2 (HS.out.below Hb4.out (nR _)) (HX.out.below Hb4.out (nR _)) H1.out (fun k=>⟨(lZ H2.out k).1,Int.le_trans (lZ H2.out k).2 (by decide)⟩) (by decide) HBl.out).mono ?_;rintro e w3 ⟨rfl,_,hg⟩;have Hfin:=lH (below_of_grown Hb4.out hg Hmb.out);clear hg;go_wp2
  go_ret2
  exact⟨by rw[HE.out];rfl,Hfin.out⟩
 ·have HE:=lH (show oM B xs= .tuple #[iN qi 0,iN qi (aH B xs true)] by unfold oM;rw[if_neg hok]);clear hs hv hx hb0;generalize aH B xs true=al at *;go_enter Tryd.func25,Tryd.ntmps25
  go_wp2_with fail
  refine HC.out.mono ?_;rintro e w1 ⟨rfl,hb1⟩;rw[lC hok];have Hbw:=lH (HB0.out.trans (hb1.mono (by simp)));clear hb1;go_wp2
  go_ret2
  exact⟨by rw[HE.out];rfl,Hbw.out.trans ((bR _ _).alloc Hbw.out.size _)⟩
def mF (a b:Int):Int:=if a<b then -1 else if b<a then 1 else 0
def cmpL:List Int->List Int->Int
 | [],[]=>0
 | [],_::_=> -1
 |_::_,[]=>1
 |a::l,b::m=>if mF a b=0 then cmpL l m else mF a b
theorem c127 (a:Int) (w:wD):cF tP 99 #[iN qi a] w fun e w'=>e= rT (.bool false)/\w'=w:=by
 have h:(a != a)=false:=by simp
 go_enter Tryd.func99,Tryd.ntmps99;go_wp2;go_ret;exact⟨by simp,rfl⟩
theorem MB (a b:Int) (w:wD):cF tP 98 #[iN qi a,iN qi b] w fun e w'=>e= rT (iN qi (mF a b))/\w'=w:=by
 have HC:Hid (mF a b=if a<b then -1 else if b<a then 1 else 0):=lH rfl;by_cases h1:a<b
 ·have HC2:=lH (HC.out.trans (if_pos h1));clear HC;go_enter Tryd.func98,Tryd.ntmps98
  go_wp2_with (go_at_call 99;refine(c127 _ _).mono ?_;rintro e w' ⟨rfl,rfl⟩)
  go_ret;exact⟨by rw[HC2.out];rfl,rfl⟩
 ·by_cases h2:b<a
  ·have HC2:=lH (HC.out.trans ((if_neg h1).trans (if_pos h2)));clear HC;go_enter Tryd.func98,Tryd.ntmps98
   go_wp2_with (go_at_call 99;refine(c127 _ _).mono ?_;rintro e w' ⟨rfl,rfl⟩)
   go_ret;exact⟨by rw[HC2.out];rfl,rfl⟩
  ·have HC2:=lH (HC.out.trans ((if_neg h1).trans (if_neg h2)));clear HC;go_enter Tryd.func98,Tryd.ntmps98
   go_wp2_with (go_at_call 99;refine(c127 _ _).mono ?_;rintro e w' ⟨rfl,rfl⟩)
   go_ret;exact⟨by rw[HC2.out];rfl,rfl⟩
theorem Zd {xs ys:List Int} {k:Nat} (h:k<xs.length) (h2:ys.length<=k):cmpL (xs.drop k) (ys.drop k)=1:=by
 rw[List.drop_eq_getElem_cons h,List.drop_of_length_le h2];rfl
theorem Ze {xs ys:List Int} {k:Nat} (h:k<xs.length) (h2:k<ys.length):cmpL (xs.drop k) (ys.drop k)=if mF (trk xs k) (trk ys k)=0 then cmpL (xs.drop (k+1)) (ys.drop (k+1)) else mF (trk xs k) (trk ys k):=by
 have t1:trk xs k=xs[k]:=by unfold trk;rw[lD,lG h];rfl
 have t2:trk ys k=ys[k]:=by unfold trk;rw[lD,lG h2];rfl
 rw[t1,t2,List.drop_eq_getElem_cons h,List.drop_eq_getElem_cons h2,cmpL]
theorem Zf {xs ys:List Int} {k:Nat} (h:xs.length<=k) (hk:k<=xs.length):cmpL (xs.drop k) (ys.drop k)=if xs.length<ys.length then -1 else 0:=by
 rw[List.drop_of_length_le h];by_cases h2:xs.length<ys.length
 ·rw[if_pos h2,List.drop_eq_getElem_cons (show k<ys.length by omega)];rfl
 ·rw[if_neg h2,List.drop_of_length_le (show ys.length<=k by omega)];rfl
theorem Zg (xs ys:List Int) (xa ya:Option aD) (xc yc:Nat) (w:wD) (hx:SlI w xa xs) (hy:SlI w ya ys) (hxl:xs.length<=1000000):
  cF tP 88 #[sL xa xs.length xc,sL ya ys.length yc] w fun e w'=>e= rT (iN qi (cmpL xs ys))/\w'=w:=by
 have HX:=lH hx;have HY:=lH hy;clear hx hy;go_enter Tryd.func88,Tryd.ntmps88
 go_wp2_with fail
 go_loopw [11] (fun i wr=> ∃k:Nat,k<=xs.length/\i= iN qi (k:Int)/\cmpL xs ys=cmpL (xs.drop k) (ys.drop k)/\wr=w) (fun i _=>xs.length-(intOf i).toNat)
 case atStart=>exact⟨0,Nat.zero_le _,rfl,rfl,rfl⟩
 case round=>
  obtain⟨k,hk,rfl,hfk,rfl⟩:=hrel;have Hfk:=lH hfk;clear hfk;by_cases hlt:k<xs.length
  ·obtain⟨tb,tofs,rfl,htk⟩:=oL HX.out hlt;by_cases hly:k<ys.length
   ·obtain⟨sb,sofs,rfl,hsk⟩:=oL HY.out hly;have hst:=Ze hlt hly;by_cases h0:mF (trk xs k) (trk ys k)=0
    ·rw[if_pos h0] at hst;have HH:=lH (Hfk.out.trans hst);have H0:=lH h0;clear hst h0;generalize trk xs k=a at *;generalize trk ys k=b at *
     go_wp2_with fail
     refine(MB a b _).mono ?_;rintro e w' ⟨rfl,rfl⟩;rw[H0.out];go_wp2;go_roundw
     case rel=>exact⟨k+1,by omega,by go_num,HH.out,trivial⟩
     case measure=>simp[intOf];omega
    ·rw[if_neg h0] at hst;have HH:=lH (Hfk.out.trans hst);have h0':(mF (trk xs k) (trk ys k)==0)=false:=by simpa using h0
     clear hst h0;generalize trk xs k=a at *;generalize trk ys k=b at *;generalize hcc:mF a b=c at *;have Hcc:=lH hcc;clear hcc
     go_wp2_with fail
     refine(MB a b _).mono ?_;rintro e w' ⟨rfl,rfl⟩;rw[Hcc.out];go_wp2;go_ret;exact⟨by rw[HH.out];rfl,rfl⟩
   ·have HH:=lH (Hfk.out.trans (Zd hlt (by omega)));go_wp2;go_ret;exact⟨by rw[HH.out];rfl,rfl⟩
  ·have HH:=lH (Hfk.out.trans (Zf (by omega) hk));by_cases hly:xs.length<ys.length
   ·have HH2:=lH (HH.out.trans (if_pos hly));clear HH;go_wp2;go_ret;exact⟨by rw[HH2.out];rfl,rfl⟩
   ·have HH2:=lH (HH.out.trans (if_neg hly));clear HH;go_wp2;go_ret;exact⟨by rw[HH2.out];rfl,rfl⟩
def qR (x y:List Int×Int):Int:=if x.2=y.2 then cmpL x.1 y.1 else x.2-y.2
theorem c105 (x y:List Int×Int) (xa ya:Option aD) (xc yc:Nat) (w:wD) (hx:SlI w xa x.1) (hy:SlI w ya y.1) (hxl:x.1.length<=1000000) (bx:0<=x.2/\x.2<=1000000) (hby:0<=y.2/\y.2<=1000000):
  cF tP 65 #[.agg #[sL xa x.1.length xc,iN qi x.2],.agg #[sL ya y.1.length yc,iN qi y.2]] w fun e w'=>e= rT (iN qi (qR x y))/\bX w.heap.size w w':=by
 obtain⟨xs,p⟩:=x;obtain⟨ys,q⟩:=y;simp only at hx hy hxl bx hby ⊢;have hb0: ∀o1 o2:Obj,bX w.heap.size w ((w.alloc o1).alloc o2):=fun o1 o2=>((bR _ _).alloc (nR _) _).alloc (by simp) _;have HB0:=lH hb0;by_cases h:p=q
 ·have HE:=lH (show qR (xs,p) (ys,q)=cmpL xs ys from if_pos h);have HX:=lH hx;have HY:=lH hy;have hne:(p != q)=false:=by simp[h]
  clear hx hy hb0 h;go_enter Tryd.func65,Tryd.ntmps65
  go_wp2_with fail
  refine(Zg xs ys xa ya xc yc _ (HX.out.below (HB0.out _ _) (nR _)) (HY.out.below (HB0.out _ _) (nR _)) hxl).mono ?_;rintro e w' ⟨rfl,rfl⟩;go_wp2;go_ret;exact⟨by rw[HE.out];rfl,HB0.out _ _⟩
 ·have HE:=lH (show qR (xs,p) (ys,q)=p-q from if_neg h);have hne:(p != q)=true:=by simp[h]
  clear hx hy hb0 h;go_enter Tryd.func65,Tryd.ntmps65
  go_wp2_with fail
  go_ret;exact⟨by rw[HE.out];rfl,HB0.out _ _⟩
def ints (xs:List Int):List Value:=xs.map (.int qi)
def tC (w:wD) (xs:List Int) (e:Ending) (w':wD):Prop:= ∃v,e= rT v/\w'.ownsRow w.heap.size 3 1 v xs.length (ints xs)/\bX w.heap.size w w'
theorem EF {xs:List Int}: ∀u∈ints xs,u.oneCell'=true:=fun u hu=>by
 unfold ints at hu;obtain⟨x,_,rfl⟩:=List.mem_map.1 hu;rfl
theorem EG {w:wD} {xs:List Int} {ad:aD} (h:SlI w (some ad) xs): ∀(j:Nat) (u:Value),(ints xs)[j]? =some u->w.cell? (ad.add j)=some u:=fun j u hu=>by
 unfold ints at hu;rw[List.getElem?_map] at hu
 cases e:xs[j]? with
 |none=>rw[e] at hu;cases hu
 |some x=>
  rw[e] at hu
  cases hu
  obtain⟨b,o,e2,h0⟩:=h j x e
  cases e2
  by_cases hj:j=0
  ·subst hj;simpa[Addr.add] using h0
  ·simpa[Addr.add,hj] using h0
theorem MC (xs:List Int) (xa:Option aD) (xc:Nat) (w:wD) (hx:SlI w xa xs) (hxl:xs.length<=1000000) (hn:xa=none->xc=0):
  cF tP 87 #[sL xa xs.length xc] w (tC w xs):=by
 obtain⟨i0,hi,hz0,hz1,hz2⟩:=info_parts info3
 cases xa with
 |none=>
  have h0:xs= []:=by
   cases xs with
   |nil=>rfl
   |cons x l=>obtain⟨_,_,e,_⟩:=hx 0 x rfl;cases e
  subst h0;rw[hn rfl];have HR:Hid (tC w [] (rT (sL none 0 0)) w):=lH ⟨_,rfl,World.ownsRow_nil _ _ _ _,bR _ _⟩;clear hx hxl hn;have heq:=Lib.run_eql_slice_nil w 42 3 none 0 0 0 0 Tryd.underlying42;go_enter Tryd.func87,Tryd.ntmps87;go_wp2;go_ret;exact HR.out
 |some ad=>
  have HX:=lH hx;clear hx hn;have heq:=Lib.run_eql_slice_nil w 42 3 (some ad) xs.length xc 0 0 Tryd.underlying42;go_enter Tryd.func87,Tryd.ntmps87;have hb1:bX w.heap.size w (w.alloc (cL #[] 3)):=(bR _ _).alloc (nR _) _;have HB1:=lH hb1;have hown:(w.alloc (cL #[] 3)).ownsRow w.heap.size 3 1 (sL (some ⟨w.heap.size,0,none⟩) 0 0) 0 []:=⟨rfl,.inr ⟨w.heap.size,0,#[],rfl,nR _,(MapKept.heap_alloc w _).1,nR _,Nat.zero_le _,rfl,rfl⟩⟩;have Hown:=lH hown;have Hnews:=lH (EG (HX.out.below hb1 (nR _)));clear hb1 hown
  go_wp2_with (at_builtin;refine wpList_append_own _ rfl _ _ 42 rfl w.heap.size 3 i0 (iN qi 0) 1 8 Tryd.underlying42 hi hz0 hz1 hz2 rfl (by decide) _ _ _ rfl Hown.out ad xs.length xc (ints xs) rfl (by simp[ints]) Hnews.out EF (by unfold maxLen;omega) (by omega) (by simp) ?_;intro v w1 hown1 hgrow _)
  have HR:Hid (tC w xs (rT v) w1):=lH ⟨v,rfl,by simpa using hown1,HB1.out.grown hgrow HB1.out.size (fun k hk=>by cases hk;exact nR _)⟩;clear hown1 hgrow;go_wp2;go_ret;exact HR.out
theorem Zh (n:Nat) (hn1:1<=n) (hn2:n<=1000000) (w:wD):
  cF tP 97 #[sL none 0 0,iN qi (n:Int)] w fun e w'=> ∃v,e= rT v/\w'.ownsRow w.heap.size 3 1 v 0 []/\bX w.heap.size w w':=by
 obtain⟨i0,hi,hz0,hz1,hz2⟩:=info_parts info3;have hr:=Lib.run_append_nil_zeros (P:=tP) w 42 3 42 3 i0 (iN qi 0) qi qi Tryd.underlying42 Tryd.underlying3 hi hz0 n (by omega) (by omega) (by omega) (by rw[hz2];omega);have hcap:=grownCap_ge w n 0 3;have hcm:=grownCap_le_maxLen w n 0 3 (by unfold maxLen;omega);generalize grownCap w n 0 3=cap at *;have hsz:(Builtin.zeroCells (Value.int qi 0).cells n++Builtin.zeroCells (Value.int qi 0).cells (cap-n)).size=cap:=by
  simp[size_zeroCells,Value.cells];omega
 generalize Builtin.zeroCells (Value.int qi 0).cells n++Builtin.zeroCells (Value.int qi 0).cells (cap-n)=cur at *;have HR:=lH hr;have HO:Hid ((w.drew.alloc (cL cur 3)).ownsRow w.heap.size 3 1 (sL (some ⟨w.heap.size,0,none⟩) 0 cap) 0 []):=lH ⟨rfl,.inr ⟨w.heap.size,cap,cur,rfl,nR _,heap_alloc_new w.drew _,Nat.zero_le _,hcm,by omega,by simp⟩⟩;have HB:Hid (bX w.heap.size w (w.drew.alloc (cL cur 3))):=lH ((bR _ _).drew.alloc (nR _) _);clear hr;have hpos:0<(n:Int):=by omega
 go_enter Tryd.func97,Tryd.ntmps97
 go_wp2_with (at_builtin;refine Lib.wpList_append_run _ rfl _ _ _ _ rfl _ _ rfl rfl _ _ HR.out ?_)
 go_ret;exact⟨_,rfl,HO.out,HB.out⟩
def jB (n m:Nat):Nat->Nat
 | 0=>0
 | 1=>n
 |_=>n+m
def mG (xs ys:List Int):Nat->List Value
 | 0=> []
 | 1=>ints xs
 |_=>ints xs++ints ys
theorem Zi (xs ys:List Int) (sb c:Nat) (xa ya:aD) (xc yc:Nat) (w:wD) (h0:w.cell? ⟨sb,0,none⟩=some (sL (some xa) xs.length xc)) (h1:w.cell? ⟨sb,1,none⟩=some (sL (some ya) ys.length yc))
  (hx:SlI w (some xa) xs) (hy:SlI w (some ya) ys) (hl1:1<=xs.length+ys.length) (hl2:xs.length+ys.length<=1000):
  cF tP 86 #[sL (some ⟨sb,0,none⟩) 2 c] w (tC w (xs++ys)):=by
 obtain⟨i0,hi,hz0,hz1,hz2⟩:=info_parts info3;have HX:=lH hx;have HY:=lH hy;have Hc:=lH (And.intro h0 h1);clear hx hy;go_enter Tryd.func86,Tryd.ntmps86
 go_wp2_with fail
 go_loopw [3,11] (fun l i wr=> ∃k:Nat,k<=2/\i= iN qi (k:Int)/\l= iN qi (jB xs.length ys.length k:Int)/\w=wr) (fun _ i _=>2-(intOf i).toNat)
 case atStart=>exact⟨0,by omega,rfl,rfl,rfl⟩
 case round=>
  obtain⟨k,hk,rfl,rfl,rfl⟩:=hrel;have hkk:k=0\/k=1\/k=2:=by omega
  rcases hkk with rfl |rfl |rfl
  ·rw[show jB xs.length ys.length 0=0 from rfl];have hp:(0 :Int)<=(xs.length:Int):=Int.natCast_nonneg _;go_wp2;exact⟨⟨1,by omega,rfl,rfl,trivial⟩,by decide⟩
  ·rw[show jB xs.length ys.length 1=xs.length from rfl];have hp:(0 :Int)<=(xs.length:Int):=Int.natCast_nonneg _;have hq:(0 :Int)<=(ys.length:Int):=Int.natCast_nonneg _;go_wp2;exact⟨⟨2,by omega,rfl,by show _=Value.int qi ((xs.length+ys.length:Nat):Int);push_cast;rfl,trivial⟩,by decide⟩
  ·rw[show jB xs.length ys.length 2=xs.length+ys.length from rfl];generalize hnn:xs.length+ys.length=nn at *;have Hnn:=lH hnn;clear hnn
   go_wp2_with fail
   refine(Zh nn hl1 (by omega) _).mono ?_;rintro e w1 ⟨v,rfl,hown,hb⟩;have Hown:=lH hown;have Hb:=lH hb;have h0':=aoF hb h0 (nR _);have h1':=aoF hb h1 (nR _);clear hown hb
   go_wp2_with fail
   go_loopw [6,27] (fun v i wr=> ∃k:Nat,k<=2/\i= iN qi (k:Int)/\wr.ownsRow w.heap.size 3 1 v (jB xs.length ys.length k) (mG xs ys k)/\bX w.heap.size w wr) (fun _ i _=>2-(intOf i).toNat)
   case atStart=>exact⟨0,by omega,rfl,Hown.out,Hb.out⟩
   case round=>
    obtain⟨k,hk,rfl,ho2,hb2⟩:=hrel;have Ho2:=lH ho2;have Hb2:=lH hb2;have c0:=aoF hb2 h0 (nR _);have c1:=aoF hb2 h1 (nR _);clear ho2 hb2;have hkk:k=0\/k=1\/k=2:=by omega
    rcases hkk with rfl |rfl |rfl
    ·rw[show jB xs.length ys.length 0=0 from rfl,show mG xs ys 0= [] from rfl] at Ho2;have Hnews:=lH (EG (HX.out.below Hb2.out (nR _)))
     go_wp2_with (at_builtin;refine wpList_append_own _ rfl _ _ 42 rfl w.heap.size 3 i0 (iN qi 0) 1 8 Tryd.underlying42 hi hz0 hz1 hz2 rfl (by decide) _ _ _ rfl Ho2.out xa xs.length xc (ints xs) rfl (by simp[ints]) Hnews.out EF (by have:=Hnn.out;unfold maxLen;omega) (by have:=Hnn.out;omega) Hb2.out.size ?_;intro v3 w3 hown3 hgrow _)
     have HR:Hid (w3.ownsRow w.heap.size 3 1 v3 (jB xs.length ys.length 1) (mG xs ys 1)/\bX w.heap.size w w3):=lH ⟨by simpa[jB,mG] using hown3,Hb2.out.grown hgrow Hb2.out.size (fun k hk=>(Ho2.out.lt k hk).1)⟩;clear hown3 hgrow;go_wp2;go_roundw
     case rel=>exact⟨1,by omega,by go_num,HR.out.1,HR.out.2⟩
     case measure=>simp[intOf]
    ·rw[show jB xs.length ys.length 1=xs.length from rfl,show mG xs ys 1=ints xs from rfl] at Ho2;have Hnews:=lH (EG (HY.out.below Hb2.out (nR _)))
     go_wp2_with (at_builtin;refine wpList_append_own _ rfl _ _ 42 rfl w.heap.size 3 i0 (iN qi 0) 1 8 Tryd.underlying42 hi hz0 hz1 hz2 rfl (by decide) _ _ _ rfl Ho2.out ya ys.length yc (ints ys) rfl (by simp[ints]) Hnews.out EF (by have:=Hnn.out;unfold maxLen;omega) (by have:=Hnn.out;omega) Hb2.out.size ?_;intro v3 w3 hown3 hgrow _)
     have HR:Hid (w3.ownsRow w.heap.size 3 1 v3 (jB xs.length ys.length 2) (mG xs ys 2)/\bX w.heap.size w w3):=lH ⟨by simpa[jB,mG] using hown3,Hb2.out.grown hgrow Hb2.out.size (fun k hk=>(Ho2.out.lt k hk).1)⟩;clear hown3 hgrow;go_wp2;go_roundw
     case rel=>exact⟨2,by omega,by go_num,HR.out.1,HR.out.2⟩
     case measure=>simp[intOf]
    ·have HF:Hid (∀v,wr.ownsRow w.heap.size 3 1 v (jB xs.length ys.length 2) (mG xs ys 2)->tC w (xs++ys) (rT v) wr):=lH fun v h=>⟨v,rfl,by simpa[jB,mG,ints] using h,Hb2.out⟩;go_wp2;go_ret;exact HF.out _ Ho2.out
def qU (B:Bk) (T:Nat->Int):List (Int×Int×Int):=(List.range B.hours.toNat).map fun(h:Nat)=>((h:Int),B.lackIn T true h,B.lackIn T false h)
def jk (B:Bk) (T:Nat->Int):Bool:= !(qU B T).any fun x=>decide (0<=x.2.1)
theorem Zj (x:Int×Int×Int) (w:wD):cF tP 74 #[.agg #[iN qi x.1,iN qi x.2.1,iN qi x.2.2]] w fun e w'=>e= rT (.bool (decide (0<=x.2.1)))/\bX w.heap.size w w':=by
 obtain⟨a,b,c⟩:=x;go_enter Tryd.func74,Tryd.ntmps74;go_wp2;go_ret;exact⟨rfl,(bR _ _).alloc (nR _) _⟩
theorem Zk {B:Bk} {T:Nat->Int} {ob:Nat} {w:wD} (h:jP B T ob w):SlL w (some ⟨ob,0,none⟩) (qU B T):=fun i x hx=>by
 unfold qU at hx;rw[List.getElem?_map] at hx
 cases e:(List.range B.hours.toNat)[i]? with
 |none=>rw[e] at hx;cases hx
 |some j=>
  rw[e] at hx
  cases hx
  obtain⟨hl,rfl⟩:=lS.1 e;simp only[List.length_range] at hl;simp only[List.getElem_range];obtain⟨h0,h1,h2⟩:=h i (by omega);exact⟨ob,0,rfl,by simpa using h0,by simpa using h1,by simpa using h2⟩
theorem fB.kept {w w':wD} {V:BkV} {B:Bk} {tb tofs:Nat} {T:Nat->Int} (L:fB w V B tb tofs T) (hk:Kept w.heap.size w w'):fB w' V B tb tofs T:=by
 have hr: ∀{o:Option aD},bG w o->bG w' o:=fun h a ha=>by
  obtain⟨c,t,z,h1⟩:=h a ha;exact⟨c,t,z,by rw[hk.block _ (Array.getElem?_eq_some_iff.1 h1).1];exact h1⟩
 exact⟨L.fine,L.steps,L.book.old (fun b hb o=>hk.cell (p:=⟨b,o,none⟩) hb),⟨fun k hkk=>dV hk (nR _) (L.tr.get k hkk),L.tr.pos⟩,hr L.ta,hr L.la,hr L.pa,dV hk (nR _) L.g0,dV hk (nR _) L.g1,Nat.le_trans L.gl hk.size⟩
noncomputable def tH:Code:=Tryd.f51.body.getD .skip
noncomputable def EH:Array Oper:=match tH with
 | .seq _ (.seq (.region _ ops _) _)=>ops
 |_=> #[]
def CA (t2 t5 t6 t7 t8 t9 t4:Value) (p0 p1:Value):Act:=⟨#[p0,p1,t2,ud,t4,t5,t6,t7,t8,t9],[]⟩
def MF (w:wD) (B:Bk) (T:Nat->Int) (v:Value) (w':wD):Prop:=v= .bool (jk B T)/\Kept w.heap.size w w'
theorem Zl (V:BkV) (B:Bk) (xv:Value) (w:wD):
  Comes tP [.code tH] (fun it a w'=> ∃t2,it= [.inRegion EH [2,3,4,5],.code .ret]/\a=CA t2 (V.val B) xv ud ud ud (.bool false) (V.val B) xv/\bX w.heap.size w w') ⟨#[V.val B,xv,ud,ud,ud,ud,ud,ud,ud,ud],[]⟩ w:=by
 obtain⟨ta,la,pa,tc,lc,pc⟩:=V;simp only[tH,Tryd.f51,Option.getD_some];refine aK (bg ?_);go_wp2;refine aK (qN ?_);refine dF rfl rfl (v:= .agg #[iN qi B.hours,sL ta B.towns.length tc,sL la B.links.length lc,sL pa B.pairs.length pc]) (w1:=w.alloc (cL #[iN qi B.hours,sL ta B.towns.length tc,sL la B.links.length lc,sL pa B.pairs.length pc] 81)) (by go_simp) ?_;refine dF rfl rfl (v:=xv) (w1:=w.alloc (cL #[iN qi B.hours,sL ta B.towns.length tc,sL la B.links.length lc,sL pa B.pairs.length pc] 81)) (by go_simp) ?_;exact dO ⟨_,rfl,rfl,(bR _ _).alloc (nR _) _⟩
theorem Zm (w:wD) (V:BkV) (B:Bk) (tb tofs xc:Nat) (T:Nat->Int) (L:fB w V B tb tofs T):
  iK tP 51 #[V.val B,sL (some ⟨tb,tofs,none⟩) B.links.length xc] w (MF w B T):=by
 refine(Bh good Tryd.func51 (x:=tH) (by rfl) (R:=MF w B T) ?_).mono fun v w' h=>Bl (fun v w' τ d r=>⟨r.1,fC.1 r.2⟩) h;have hH:=L.fine.hours;have hact:(⟨#[V.val B,sL (some ⟨tb,tofs,none⟩) B.links.length xc]++Array.replicate (Tryd.f51.ntmps- #[V.val B,sL (some ⟨tb,tofs,none⟩) B.links.length xc].size) ud,[]⟩:Act)=⟨#[V.val B,sL (some ⟨tb,tofs,none⟩) B.links.length xc,ud,ud,ud,ud,ud,ud,ud,ud],[]⟩:=by
  rw[Tryd.ntmps51];simp[BkV.val,Array.replicate,List.replicate]
 rw[hact];refine jM good (Q:=fun it a w'=> ∃t2,it= [.inRegion EH [2,3,4,5],.code .ret]/\a=CA t2 (V.val B) (sL (some ⟨tb,tofs,none⟩) B.links.length xc) ud ud ud (.bool false) (V.val B) (sL (some ⟨tb,tofs,none⟩) B.links.length xc)/\Kept w.heap.size w w') (fun τ=>(Zl V B _ _).mono fun it a u ⟨t2,e1,e2,hb⟩=>⟨t2,e1,e2,mD.1 (by have:=Kept.of_below hb;rwa [jO] at this)⟩) ?_;rintro it a w1 ⟨t2,rfl,rfl,hk⟩;have L1:fB w1 V B tb tofs T:=L.kept hk;simp only[CA,EH,tH,Tryd.f51,Option.getD_some];refine qM good (g:=41) (R1:=Em w1 B T) (args:= #[V.val B,sL (some ⟨tb,tofs,none⟩) B.links.length xc]) (by rfl) (by rfl) (fun u=>by go_simp) (LC w1 V B tb tofs xc T L1) ?_;rintro v w2 ⟨ob,c,rfl,ho,hrow,hO,hk2⟩;have hOut:jP B T ob w2:=LU hrow hO;have hk3:Kept w.heap.size w w2:=hk.trans (hk2.mono hk.size);have hlen:B.hours.toNat=(qU B T).length:=by simp[qU]
 have h107:iK tP 73 #[sL (some ⟨ob,0,none⟩) B.hours.toNat B.hours.toNat,.func (.func 74) #[] #[]] w2 (fun v w'=>v= .bool (!jk B T)/\Kept w2.heap.size w2 w'):=by
  refine Ei good (R:=fun v w'=>v= .bool (!jk B T)/\Kept w2.heap.size w2 w') (fun v w' τ d r=>⟨r.1,fC.1 r.2⟩) fun τ=> ?_;refine(c107 74 (fun x=>decide (0<=x.2.1)) (some ⟨ob,0,none⟩) (qU B T) _ _ (w2.tp τ 0 noJ) hlen (Zk hOut.tp) (by rw[<-hlen];omega) (cf Tryd.func74 (by rfl) (by rfl)) (fun x w1 _=>Zj x w1)).mono ?_;rintro e w' ⟨rfl,hb⟩;exact⟨_,rfl,by rw[jk,Bool.not_not],mD.1 (by have:=Kept.of_below hb;rwa [jO] at this)⟩
 refine qM good (g:=73) (args:= #[sL (some ⟨ob,0,none⟩) B.hours.toNat B.hours.toNat,.func (.func 74) #[] #[]]) (by rfl) (by rfl) (fun u=>by go_simp) h107 ?_;rintro v w3 ⟨rfl,hk4⟩;have hk5:Kept w.heap.size w w3:=hk3.trans (hk4.mono hk3.size);refine jM good (Q:=fun it a u=> ∃t5 t6 t7 t8,it= [.code .ret]/\a=CA t2 t5 t6 t7 t8 (.bool (jk B T)) (.bool (jk B T)) (V.val B) (sL (some ⟨tb,tofs,none⟩) B.links.length xc)/\ ∃τ,u=w3.tp τ 0 noJ) (fun τ=> ?_) ?_
 ·refine dF rfl rfl (w1:=w3.tp τ 0 noJ) (v:= .bool (jk B T)) (by go_simp) ?_;refine dF rfl rfl (w1:=w3.tp τ 0 noJ) (v:= .bool (jk B T)) (by go_simp) ?_;exact Bj (dO ⟨_,_,_,_,rfl,rfl,τ,rfl⟩)
 ·rintro it a u ⟨t5,t6,t7,t8,rfl,rfl,τ,rfl⟩;refine Bg good Tryd.func51 fun τ'=>wp_ret ?_;exact⟨rfl,_,by simp[results,Tryd.results51,go_sem,CA],_,rfl,rfl,fC.2 (fC.2 hk5)⟩
end Go.Proofs.YtfiiffnbggnkfaaDoor
