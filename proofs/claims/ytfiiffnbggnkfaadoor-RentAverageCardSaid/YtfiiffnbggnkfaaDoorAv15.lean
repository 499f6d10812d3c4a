/- A part of the proof of a law; no conditions of its own. -/
import Derived.Test.YtfiiffnbggnkfaaDoorAv14
open Go.RowKit renaming Below→bX
open Go renaming Calls→cF, Value→vL, World→wD
open Go.IntKind renaming i64→qi
open Go.Value renaming int→iN, slice→sL, pointer→pN
open Go.Ending renaming returned→rT
open Go.Obj renaming cells→cL
set_option maxRecDepth 100000
open Nat renaming le_refl→nR
open Go.Lib renaming hid→lH
open Go.RowKit.Below renaming refl→bR
open Go.Proofs.Tryd renaming prog→tP
open List renaming getElem?_eq_getElem→lG
open Go.World renaming cell?_setCell_far→wF
open List renaming getD_eq_getElem?_getD→lD
set_option maxHeartbeats 4000000
namespace Go.Proofs.YtfiiffnbggnkfaaDoor
open Go.RowKit Go.Rent Go.Tp Go.Conc
def iW (B:Bk) (T:Nat->Int):Nat->Nat->vL
 | 0,_=> .tuple #[iN qi 0,iN qi 0,iN qi 0,iN qi 10]
 |n+1,i=>if 0<=B.lackIn T true i then .tuple #[iN qi (i:Int),iN qi (B.lackIn T true i),iN qi (B.inn T true i (B.lackIn T true i).toNat-T (B.lackIn T true i).toNat),iN qi 0] else iW B T n (i+1)
def oK (B:Bk) (xs:List Int):vL:=if aH B xs true=0 then iW B (trk xs) B.hours.toNat 0 else .tuple #[iN qi 0,iN qi 0,iN qi 0,iN qi (aH B xs true)]
theorem YM {B:Bk} {T:Nat->Int} {n k:Nat} (hk:k<n) (h:0<=B.lackIn T true k):iW B T (n-k) k= .tuple #[iN qi (k:Int),iN qi (B.lackIn T true k),iN qi (B.inn T true k (B.lackIn T true k).toNat-T (B.lackIn T true k).toNat),iN qi 0]:=by
 obtain⟨m,hm⟩: ∃m,n-k=m+1:=⟨n-k-1,by omega⟩;rw[hm,iW,if_pos h]
theorem YN {B:Bk} {T:Nat->Int} {n k:Nat} (hk:k<n) (h: ¬0<=B.lackIn T true k):iW B T (n-k) k=iW B T (n-(k+1)) (k+1):=by
 obtain⟨m,hm⟩: ∃m,n-k=m+1:=⟨n-k-1,by omega⟩;rw[hm,iW,if_neg h,show n-(k+1)=m by omega]
theorem LV (l T:Nat->Int): ∀n i,fJ l T n i<((i+n:Nat):Int)/\ -1<=fJ l T n i
 | 0,i=>by simp[fJ];omega
 |n+1,i=>by
  unfold fJ
  split
  ·omega
  ·have:=LV l T n (i+1);omega
theorem YO {B:Bk} (hB:B.Fine) (T:Nat->Int) (most:Bool) (h:Nat):B.lackIn T most h<6/\B.lackIn T most h<B.links.length/\ -1<=B.lackIn T most h:=by
 have:=LV (B.inn T most h) T B.spokes 0;have hl:=hB.links;have ht:=hB.towns;unfold Bk.spokes at hl this;unfold Bk.lackIn Bk.lack Bk.spokes;omega
theorem LW {B:Bk} (hB:B.Fine) {T:Nat->Int} (hT: ∀k,0<=T k) (most:Bool) (h j:Nat):0<=B.inn T most h j/\B.inn T most h j<=5*B.pairs.length:=
 vJ B hB T (B.call most h) hT (fun i _=>Gj B hB most h i) B.pairs.length (nR _) j
theorem tq {w:wD} {xs:List Int} {xa:Option Addr} {n:Nat} (hx:SlI w xa xs) (h1:xs.length=n) (hn:0<n) (h2:dN xs=false): ∃tb tofs,xa=some ⟨tb,tofs,none⟩/\bK w tb tofs n (trk xs):=by
 obtain⟨tb,tofs,e,_⟩:=hx 0 _ (lG (by omega));refine⟨tb,tofs,e,fun k hk=> ?_,fun k=>(lZ h2 k).1⟩;have hk':xs[k]? =some xs[k]:=lG (by omega);obtain⟨b,o,e2,h3⟩:=hx k _ hk';rw[e] at e2
 cases e2
 have:trk xs k=xs[k]:=by
  unfold trk;rw[lD,hk'];rfl
 rw[this];exact h3
theorem c25 (V:BkV) (B:Bk) (xs:List Int) (xa:Option Addr) (xc:Nat) (w:wD) (hs:aB w V B) (hv:Vars w) (hx:SlI w xa xs) (hxl:xs.length<=1000000):
  cF tP 17 #[V.val B,sL xa xs.length xc] w fun e w'=>e= rT (oK B xs)/\bX w.heap.size w w':=by
 by_cases hok:aH B xs true=0
 ·obtain⟨h0,h1,h2⟩:=nN hok;have hG:=gY h0;have hF:=hG.fine;have hl:=hF.links;have ht:=hF.towns;have hh:=hF.hours;have hp:=hF.pairs;unfold Bk.spokes at hl;obtain⟨tb,tofs,rfl,hT⟩:=tq hx h1 (by omega) h2;obtain⟨ta,la,pa,tc,lc,pc⟩:=V;have hb0:bX w.heap.size w (w.alloc (cL #[iN qi B.hours,sL ta B.towns.length tc,sL la B.links.length lc,sL pa B.pairs.length pc] 26)):=(bR _ _).alloc (nR _) _;have HC:=lH (c55 ⟨ta,la,pa,tc,lc,pc⟩ B xs (some ⟨tb,tofs,none⟩) xc true _ (hs.below hb0 (nR _)) (hv.v2.below hb0 (nR _)) (hx.below hb0 (nR _)) hxl);have HE:=lH (show oK B xs=iW B (trk xs) B.hours.toNat 0 by unfold oK;rw[if_pos hok]);have HB0:=lH hb0;have HS:=lH hs;have HV:=lH hv;have HT:=lH hT;have HF:=lH hF;have H1:=lH h1;have HTR:=lH (lZ h2);have Hl:=lH hl;have Hh:=lH hh;have Hp:=lH hp;clear hs hv hx hb0 hT hF h1 h2 h0 hG hl ht hh hp;go_enter Tryd.func17,Tryd.ntmps17
  go_wp2_with fail
  refine HC.out.mono ?_;rintro e w1 ⟨rfl,hb1⟩;rw[hok,jE];have Hbw:=lH (HB0.out.trans (hb1.mono (by simp)));have HX0:Hid (w1.cell? ⟨w.heap.size,0,none⟩=some (iN qi B.hours)):=lH (by rw[(ak hb1).1 _ _ (by simp)];go_simp);have hc0:(w1.alloc (cL #[iN qi B.hours,sL ta B.towns.length tc,sL la B.links.length lc,sL pa B.pairs.length pc] 81)).cell? ⟨w.heap.size,0,none⟩=some (iN qi B.hours):=aoF ((bR _ _).alloc (nR _) _) HX0.out (nR _);clear hb1 HC;go_wp2;generalize hWd:(w1.alloc (cL #[iN qi B.hours,sL ta B.towns.length tc,sL la B.links.length lc,sL pa B.pairs.length pc] 81))=W;have hW:W.cell? ⟨w1.heap.size,0,none⟩=some (iN qi B.hours)/\W.cell? ⟨w1.heap.size,1,none⟩=some (sL ta B.towns.length tc)/\W.cell? ⟨w1.heap.size,2,none⟩=some (sL la B.links.length lc)/\W.cell? ⟨w1.heap.size,3,none⟩=some (sL pa B.pairs.length pc):=by
   subst hWd;exact⟨by go_simp,by go_simp,by go_simp,by go_simp⟩
  have hBW:bX w.heap.size w W:=by subst hWd;exact Hbw.out.trans ((bR _ _).alloc Hbw.out.size _)
  have HW:=lH hW;have HBW:=lH hBW;clear hW hBW hWd
  go_loopw [23] (fun i wr=> ∃k:Nat,(k:Int)<=B.hours/\i= iN qi (k:Int)/\iW B (trk xs) B.hours.toNat 0=iW B (trk xs) (B.hours.toNat-k) k/\bX W.heap.size W wr) (fun i _=>B.hours.toNat-(intOf i).toNat)
  case atStart=>exact⟨0,by have:=Hh.out;omega,rfl,rfl,bR _ _⟩
  case round=>
   obtain⟨k,hk,rfl,hfk,hb⟩:=hrel;have Hfk:=lH hfk;have Hb:=lH hb;clear hfk hb;by_cases hlt:(k:Int)<B.hours
   ·obtain⟨q0,q1,q2,q3⟩:=HW.out;have p0:=aoF Hb.out q0 (nR _);have p1:=aoF Hb.out q1 (nR _);have p2:=aoF Hb.out q2 (nR _);have p3:=aoF Hb.out q3 (nR _);clear q0 q1 q2 q3;have Hbk:=lH (HBW.out.trans (Hb.out.mono HBW.out.size));have hg1:=aoF Hbk.out HV.out.g1 (nR _);rw[H1.out]
    go_wp2_with fail
    refine(DX ⟨ta,la,pa,tc,lc,pc⟩ B HF.out k tb tofs xc (trk xs) w wr HS.out.at HT.out hlt Hbk.out).mono ?_;rintro e w2 ⟨rfl,hb2⟩;have hb2':bX W.heap.size W w2:=Hb.out.trans (hb2.mono Hb.out.size);have Hb2:=lH hb2';have hw2:W.heap.size<=w2.heap.size:=hb2'.size;have HZ:Hid (w1.heap.size<W.heap.size):=lH (World.block_lt_of_cell? W _ HW.out.1);clear p0 p1 p2 p3 hb2 hg1 hb2';have hl1:B.lackIn (trk xs) true k=B.lack (B.inn (trk xs) true k) (trk xs):=rfl;have hbd:=YO HF.out (trk xs) true k;rw[hl1] at hbd;have hib:=fun j=>LW HF.out HT.out.pos true k j;have Hhit:Hid (0<=B.lackIn (trk xs) true k->iW B (trk xs) (B.hours.toNat-k) k=_):=lH (fun h=>YM (n:=B.hours.toNat) (by omega) h);have Hmiss:Hid (¬0<=B.lackIn (trk xs) true k->iW B (trk xs) (B.hours.toNat-k) k=_):=lH (fun h=>YN (n:=B.hours.toNat) (by omega) h);rw[hl1] at Hhit Hmiss;clear hl1;have Hib:=lH hib;have Hbd:=lH hbd;clear hib hbd;generalize B.inn (trk xs) true k=l at *;obtain⟨q0,q1,q2,q3⟩:=HW.out;have p0:=aoF (Hb2.out.alloc Hb2.out.size (cL #[iN qi (l 0),iN qi (l 1),iN qi (l 2),iN qi (l 3),iN qi (l 4),iN qi (l 5)] 91)) q0 (nR _);have p1:=aoF (Hb2.out.alloc Hb2.out.size (cL #[iN qi (l 0),iN qi (l 1),iN qi (l 2),iN qi (l 3),iN qi (l 4),iN qi (l 5)] 91)) q1 (nR _);have p2:=aoF (Hb2.out.alloc Hb2.out.size (cL #[iN qi (l 0),iN qi (l 1),iN qi (l 2),iN qi (l 3),iN qi (l 4),iN qi (l 5)] 91)) q2 (nR _);have p3:=aoF (Hb2.out.alloc Hb2.out.size (cL #[iN qi (l 0),iN qi (l 1),iN qi (l 2),iN qi (l 3),iN qi (l 4),iN qi (l 5)] 91)) q3 (nR _);clear q0 q1 q2 q3
    go_wp2_with fail
    have hb3:bX w.heap.size w (w2.alloc (cL #[iN qi (l 0),iN qi (l 1),iN qi (l 2),iN qi (l 3),iN qi (l 4),iN qi (l 5)] 91)):=HBW.out.trans ((Hb2.out.alloc Hb2.out.size _).mono HBW.out.size);refine(c70 ⟨ta,la,pa,tc,lc,pc⟩ B HF.out l tb tofs xc (trk xs) _ (HT.out.below hb3 (nR _))).mono ?_;rintro e w3 ⟨rfl,hb4⟩;have Hb4:=lH hb4;have Hb3:=lH hb3;clear p0 p1 p2 p3 hb3 hb4;have hz3:w2.heap.size<w3.heap.size:=by have:=Hb4.out.size;simp at this;omega
    generalize B.lack l (trk xs)=y at *;by_cases hy:0<=y
    ·obtain⟨j,rfl⟩: ∃j:Nat,y=(j:Int):=⟨y.toNat,by omega⟩;have hj:j<6:=by have:=Hbd.out;omega
     have hlj:w3.cell? ⟨w2.heap.size,j,none⟩=some (iN qi (l j)):=by
      rw[(ak Hb4.out).1 _ _ (by simp)]
      match j,hj with
      | 0,_ | 1,_ | 2,_ | 3,_ | 4,_ | 5,_=>go_simp
     have hb5:=Hb3.out.trans (Hb4.out.mono Hb3.out.size);have htj:w3.cell? ⟨tb,tofs+j,none⟩=some (iN qi (trk xs j)):=(HT.out.below hb5 (nR _)).get j (by have:=Hbd.out;omega);have hj6:(j:Int)<6:=by omega
     have hj0:(0 :Int)<=(j:Int):=Int.natCast_nonneg _;have hjl:(j:Int)<(B.links.length:Int):=Hbd.out.2.1;have hwr:IntKind.wrap qi (l j-trk xs j)=l j-trk xs j:=IntWalk.i64_in _ (by
      have h1:=Hib.out j;have h2:=HTR.out j;have h3:=Hp.out;omega)
     have HHit:=lH (Hfk.out.trans (Hhit.out hy));have Hb5:=lH hb5;clear hb5 Hhit Hmiss
     go_wp2_with fail
     go_quiet (fail)
     go_wp2;refine bodyPost_ret (v:= .tuple #[iN qi (k:Int),iN qi (j:Int),iN qi (l j-trk xs j),iN qi 0]) (by simp[results,Tryd.results17,go_sem]) rfl ⟨?_,aV Hb5.out _⟩;rw[HE.out,HHit.out];rfl
    ·have HMiss:=lH (Hfk.out.trans (Hmiss.out (by omega)));have hh:=Hh.out;have hy':decide (0<=y)=false:=by simp;omega
     have hb5:bX W.heap.size W w3:=(Hb2.out.alloc Hb2.out.size _).trans (Hb4.out.mono (by have:=Hb2.out.size;simp;omega));have Hb5:=lH hb5;clear hb5 Hhit Hmiss;go_wp2;go_roundw
     case rel=>exact⟨k+1,by omega,by go_num,HMiss.out,Hb5.out⟩
     case measure=>simp[intOf];omega
   ·have hke:(B.hours.toNat-k)=0:=by omega
    have HEnd:=lH (show iW B (trk xs) B.hours.toNat 0=iW B (trk xs) 0 k by rw[Hfk.out,hke]);have Hbk:=lH (HBW.out.trans (Hb.out.mono HBW.out.size));clear hke;go_wp2;refine bodyPost_ret (v:= .tuple #[iN qi 0,iN qi 0,iN qi 0,iN qi 10]) (by simp[results,Tryd.results17,go_sem]) rfl ⟨?_,Hbk.out⟩;rw[HE.out,HEnd.out];rfl
 ·obtain⟨ta,la,pa,tc,lc,pc⟩:=V;have hb0:bX w.heap.size w (w.alloc (cL #[iN qi B.hours,sL ta B.towns.length tc,sL la B.links.length lc,sL pa B.pairs.length pc] 26)):=(bR _ _).alloc (nR _) _;have HC:=lH (c55 ⟨ta,la,pa,tc,lc,pc⟩ B xs xa xc true _ (hs.below hb0 (nR _)) (hv.v2.below hb0 (nR _)) (hx.below hb0 (nR _)) hxl);have HE:=lH (show oK B xs= .tuple #[iN qi 0,iN qi 0,iN qi 0,iN qi (aH B xs true)] by unfold oK;rw[if_neg hok]);have HB0:=lH hb0;clear hs hv hx hb0;generalize aH B xs true=al at *;go_enter Tryd.func17,Tryd.ntmps17
  go_wp2_with fail
  refine HC.out.mono ?_;rintro e w1 ⟨rfl,hb1⟩;rw[lC hok];have Hbw:=lH (HB0.out.trans (hb1.mono (by simp)));clear hb1;go_wp2;refine bodyPost_ret (v:= .tuple #[iN qi 0,iN qi 0,iN qi 0,iN qi al]) (by simp[results,Tryd.results17,go_sem]) rfl ⟨?_,Hbw.out.trans ((bR _ _).alloc Hbw.out.size _)⟩;rw[HE.out]
structure jh (w:wD) (n:Nat) (f:Nat->Int):Prop where
 z:n<w.heap.size
 get: ∀j,j<6->w.cell? ⟨n,j,none⟩=some (iN qi (f j))
 fz: ∀j,w.frozen? ⟨n,j,none⟩=false
theorem jh.below {w w':wD} {n m:Nat} {f:Nat->Int} (r:jh w n f) (hb:bX m w w') (hm:n<m):jh w' n f:=
 ⟨Nat.lt_of_lt_of_le r.z hb.size,fun j hj=>by rw[(ak hb).1 n j hm];exact r.get j hj,fun j=>by rw[(ak hb).2 n j hm];exact r.fz j⟩
theorem jh.set {w:wD} {n:Nat} {f:Nat->Int} (r:jh w n f) (j:Nat) (hj:j<6) (x:Int):jh (w.setCell ⟨n,j,none⟩ (iN qi x)) n (fun i=>if i=j then x else f i):=by
 refine⟨by rw[World.size_setCell];exact r.z,fun i hi=> ?_,fun i=>by rw[World.frozen?_setCell];exact r.fz i⟩;by_cases e:i=j
 ·subst e;rw[if_pos rfl];exact World.cell?_setCell_same _ _ _ (r.get i hi)
 ·rw[if_neg e,World.cell?_setCell_other _ _ _ _ (by intro e';cases e';exact e rfl)];exact r.get i hi
theorem jh.other {w:wD} {n m j:Nat} {f:Nat->Int} {v:vL} (r:jh w n f) (h:m≠n):jh (w.setCell ⟨m,j,none⟩ v) n f:=
 ⟨by rw[World.size_setCell];exact r.z,fun i hi=>by rw[wF _ _ _ _ h];exact r.get i hi,fun i=>by rw[World.frozen?_setCell];exact r.fz i⟩
theorem jh.congr {w:wD} {n:Nat} {f g:Nat->Int} (r:jh w n f) (h: ∀j,j<6->f j=g j):jh w n g:=⟨r.z,fun j hj=>by rw[<-h j hj];exact r.get j hj,r.fz⟩
theorem dW.other {w:wD} {n m j:Nat} {a b c d v:vL} (r:dW w n a b c d) (h:m≠n):dW (w.setCell ⟨m,j,none⟩ v) n a b c d:=by
 obtain⟨z,c0,c1,c2,c3,f0,f1,f2,f3⟩:=r;refine⟨by rw[World.size_setCell];exact z, ?_, ?_, ?_, ?_, ?_, ?_, ?_, ?_⟩
 all_goals first
  | (rw[wF _ _ _ _ h];assumption)
  | (rw[World.frozen?_setCell];assumption)
def bW (B:Bk) (T:Nat->Int):Nat->Nat->Int
 | 0,_=>0
 |h+1,j=>max (bW B T h j) (B.inn T true h j)
def aZ (B:Bk) (T:Nat->Int) (j:Nat):Int:=bW B T B.hours.toNat j
structure PkW (w0:wD) (a b c d:vL) (b2 b4 b5:Nat) (f:Nat->Int) (w:wD):Prop where
 below:bX w0.heap.size w0 w
 r2:dW w b2 a b c d
 r4:jh w b4 fun _=>0
 r5:jh w b5 f
theorem PkW.call {w0 w w':wD} {a b c d:vL} {b2 b4 b5:Nat} {f:Nat->Int} (h:PkW w0 a b c d b2 b4 b5 f w) (hb:bX w.heap.size w w'):PkW w0 a b c d b2 b4 b5 f w':=
 ⟨h.below.trans (hb.mono h.below.size),h.r2.below hb h.r2.z,h.r4.below hb h.r4.z,h.r5.below hb h.r5.z⟩
theorem PkW.set {w0 w:wD} {a b c d:vL} {b2 b4 b5:Nat} {f g:Nat->Int} (h:PkW w0 a b c d b2 b4 b5 f w) (hb:w0.heap.size<=b5) (h2:b5≠b2) (h4:b5≠b4) (j:Nat) (hj:j<6) (x:Int) (hg: ∀i,i<6->(if i=j then x else f i)=g i):
  PkW w0 a b c d b2 b4 b5 g (w.setCell ⟨b5,j,none⟩ (iN qi x)):=
 ⟨h.below.setCell hb _,h.r2.other h2,h.r4.other h4,(h.r5.set j hj x).congr hg⟩
theorem YP (l:Nat->Int) (j:Nat) (hj:j<6) (w:wD):Sem.run tP (Instr.index 91 (ldv l) (iN qi (j:Int))) w= .ok (iN qi (l j)) w:=by
 have u3:=Tryd.underlying3;have a3:=Tryd.isAgg3;have z3:=Tryd.sizeOf3;unfold Instr.index;simp only[Sem.run_bind,run_underlying Tryd.underlying91,Result.andThen_ok]
 match j,hj with
 | 0,_ | 1,_ | 2,_ | 3,_ | 4,_ | 5,_=>go_simp
theorem c74 (V:BkV) (B:Bk) (hB:B.Fine) (tb tofs tcap:Nat) (T:Nat->Int) (w:wD) (hat:bT w V B) (hT:bK w tb tofs B.links.length T) (hg1:w.cell? ⟨1,0,none⟩=some (.func (.func 117) #[] #[])):
  cF tP 43 #[V.val B,sL (some ⟨tb,tofs,none⟩) B.links.length tcap] w fun e w'=>e= rT (ldv (aZ B T))/\bX w.heap.size w w':=by
 obtain⟨ta,la,pa,tc,lc,pc⟩:=V;have Hat:=lH hat;have HT:=lH hT;have HG:=lH hg1;have HB:=lH hB;have Hh:=lH hB.hours;have HE:Hid (ldv (aZ B T)=ldv (bW B T B.hours.toNat)):=lH rfl;clear hat hT hg1 hB;go_enter Tryd.func43,Tryd.ntmps43
 go_wp2_with fail
 generalize hWd:(((w.alloc (cL #[iN qi B.hours,sL ta B.towns.length tc,sL la B.links.length lc,sL pa B.pairs.length pc] 81)).alloc (cL #[iN qi 0,iN qi 0,iN qi 0,iN qi 0,iN qi 0,iN qi 0] 91)).alloc (cL #[iN qi 0,iN qi 0,iN qi 0,iN qi 0,iN qi 0,iN qi 0] 91))=W;have HP0:Hid (PkW w (iN qi B.hours) (sL ta B.towns.length tc) (sL la B.links.length lc) (sL pa B.pairs.length pc) w.heap.size (w.heap.size+1) (w.heap.size+1+1) (bW B T 0) W):=lH (by
  subst hWd;have h3: ∀o1 o2 o3:Obj,bX w.heap.size w (((w.alloc o1).alloc o2).alloc o3):=fun o1 o2 o3=>((((bR _ _).alloc (nR _) _).alloc (by simp) _).alloc (by simp;omega) _);refine⟨h3 _ _ _,⟨by simp;omega,by go_simp,by go_simp,by go_simp,by go_simp,by go_simp,by go_simp,by go_simp,by go_simp⟩,⟨by simp,fun j hj=> ?_,fun j=>by go_simp⟩,⟨by simp,fun j hj=> ?_,fun j=>by go_simp⟩⟩
  ·match j,hj with
   | 0,_ | 1,_ | 2,_ | 3,_ | 4,_ | 5,_=>go_simp
  ·match j,hj with
   | 0,_ | 1,_ | 2,_ | 3,_ | 4,_ | 5,_=>go_simp;try rfl)
 clear hWd;generalize hb5:w.heap.size+1+1=b5 at *;generalize hb4:w.heap.size+1=b4 at *;have HN:Hid (w.heap.size<=b5/\b5≠w.heap.size/\b5≠b4/\b4≠w.heap.size/\w.heap.size<=b4):=lH (by omega);clear hb4 hb5
 go_loopw [12] (fun i wr=> ∃k:Nat,(k:Int)<=B.hours/\i= iN qi (k:Int)/\PkW w (iN qi B.hours) (sL ta B.towns.length tc) (sL la B.links.length lc) (sL pa B.pairs.length pc) w.heap.size b4 b5 (bW B T k) wr) (fun i _=>B.hours.toNat-(intOf i).toNat)
 case atStart=>exact⟨0,by have:=Hh.out;omega,rfl,HP0.out⟩
 case round=>
  obtain⟨k,hk,rfl,hP⟩:=hrel;have HP:=lH hP;clear hP;by_cases hlt:(k:Int)<B.hours
  ·obtain⟨_,p0,p1,p2,p3,_,_,_,_⟩:=HP.out.r2;have hg1:=aoF HP.out.below HG.out (nR _)
   go_wp2_with fail
   refine(DX ⟨ta,la,pa,tc,lc,pc⟩ B HB.out k tb tofs tcap T w wr Hat.out HT.out hlt HP.out.below).mono ?_;rintro e w2 ⟨rfl,hb2⟩;have HP2:=lH (HP.out.call hb2);have HS:Hid (∀j,bW B T (k+1) j=max (bW B T k j) (B.inn T true k j)):=lH fun j=>rfl;clear p0 p1 p2 p3 hb2 hg1 HP;generalize bW B T k=f at *;generalize hgg:bW B T (k+1)=g at *;have HGG:=lH hgg;clear hgg;generalize B.inn T true k=l at *;have Hk:=lH hk;clear hk
   go_wp2_with fail
   go_loopw [20] (fun i wr=> ∃j:Nat,j<=6/\i= iN qi (j:Int)/\PkW w (iN qi B.hours) (sL ta B.towns.length tc) (sL la B.links.length lc) (sL pa B.pairs.length pc) w.heap.size b4 b5 (fun m=>if m<j then g m else f m) wr) (fun i _=>6-(intOf i).toNat)
   case atStart=>exact⟨0,by omega,rfl,by simpa using HP2.out⟩
   case round=>
    obtain⟨j,hj,rfl,hP⟩:=hrel;have HP:=lH hP;clear hP;by_cases hj6:j<6
    ·have c5:wr.cell? ⟨b5,j,none⟩=some (iN qi (f j)):=by
      have:=HP.out.r5.get j hj6;rwa [if_neg (Nat.lt_irrefl j)] at this
     have fz5:=HP.out.r5.fz j;have hS:=HS.out j;have HQ:Hid (PkW w (iN qi B.hours) (sL ta B.towns.length tc) (sL la B.links.length lc) (sL pa B.pairs.length pc) w.heap.size b4 b5 (fun m=>if m<j+1 then g m else f m) (wr.setCell ⟨b5,j,none⟩ (iN qi (g j)))):=lH (HP.out.set HN.out.1 HN.out.2.1 HN.out.2.2.1 j hj6 _ fun i hi=>by
      by_cases e:i=j
      ·subst e;simp
      ·by_cases e2:i<j
       ·rw[if_neg e,if_pos e2,if_pos (by omega)]
       ·rw[if_neg e,if_neg e2,if_neg (by omega)])
     have HSj:=lH hS;clear hS;generalize hgj:g j=gj at *;clear hgj;have hix:=YP l j hj6 wr;have hj0:(0 :Int)<=(j:Int):=Int.natCast_nonneg _;have hj6':(j:Int)<6:=by omega
     go_wp2;refine⟨⟨j+1,by omega,rfl, ?_⟩,by simp[intOf];omega⟩;have hmx:(if f j<l j then l j else f j)=gj:=by rw[HSj.out];split<;>omega
     rw[hmx];exact HQ.out
    ·have hje:j=6:=by omega
     subst hje;have HQ:Hid (PkW w (iN qi B.hours) (sL ta B.towns.length tc) (sL la B.links.length lc) (sL pa B.pairs.length pc) w.heap.size b4 b5 g wr):=lH ⟨HP.out.below,HP.out.r2,HP.out.r4,HP.out.r5.congr fun i hi=>if_pos hi⟩;have hk:=Hk.out;have hh:=Hh.out;go_wp2;exact⟨⟨k+1,by omega,rfl,by rw[HGG.out];exact HQ.out⟩,by simp[intOf];omega⟩
  ·have hke:k=B.hours.toNat:=by have:=Hh.out;omega
   rw[hke] at HP;clear hke;obtain⟨z4,g4,fz4⟩:=HP.out.r4;obtain⟨z5,g5,fz5⟩:=HP.out.r5;have Hbw:=lH HP.out.below;clear HP;generalize bW B T B.hours.toNat=f at *;have c0:=g4 0 (by omega);have c1:=g4 1 (by omega);have c2:=g4 2 (by omega);have c3:=g4 3 (by omega);have c4:=g4 4 (by omega);have c5:=g4 5 (by omega);have d0:=g5 0 (by omega);have d1:=g5 1 (by omega);have d2:=g5 2 (by omega);have d3:=g5 3 (by omega);have d4:=g5 4 (by omega);have d5:=g5 5 (by omega);have f0:=fz4 0;have f1:=fz4 1;have f2:=fz4 2;have f3:=fz4 3;have f4:=fz4 4;have f5:=fz4 5;clear g4 g5 fz4 fz5;go_wp2;refine bodyPost_ret (v:=ldv f) (by simp[results,Tryd.results43,go_sem,c0,c1,c2,c3,c4,c5]) rfl ⟨by rw[HE.out], ?_⟩;exact Hbw.out.trans ((((((bR _ _).setCell (by have:=HN.out;simp<;>omega) _).setCell (by have:=HN.out;simp<;>omega) _).setCell (by have:=HN.out;simp<;>omega) _).setCell (by have:=HN.out;simp<;>omega) _).setCell (by have:=HN.out;simp<;>omega) _ |>.setCell (by have:=HN.out;simp<;>omega) _)
theorem info3:(tP.info? 3).map (fun i=>(i.zero,i.size,i.bytes))=some (some (iN qi 0),1,8):=by kernel_rfl
theorem Bo {W wr w1:wD} {v v':vL} {o:Obj} {e:TypeId} {sz n m:Nat} {xs ys:List vL} (hb:bX W.heap.size W wr) (hown:wr.ownsRow W.heap.size e sz v n xs) (hown':w1.ownsRow W.heap.size e sz v' (n+m) (xs++ys)) (hgrow:(wr.alloc o).grownBy w1 v.ownBlock):
  w1.ownsRow W.heap.size e sz v' (n+m) (xs++ys)/\bX W.heap.size W w1:=
 ⟨hown',(hb.alloc hb.size o).grown hgrow (by have:=hb.size;simp;omega) (fun j hj=>(hown.lt j hj).1)⟩
theorem Eu {B:Bk} (hB:B.Fine) {T:Nat->Int} (hT: ∀k,0<=T k) (j:Nat): ∀h,0<=bW B T h j/\bW B T h j<=30
 | 0=>by simp[bW]
 |h+1=>by
  have ih:=Eu hB hT j h;have:=LW hB hT true h j;have:=hB.pairs;unfold bW;omega
def ig (B:Bk) (T:Nat->Int) (k:Nat):Int:=max 0 (T k-aZ B T k)
def kW (B:Bk) (T:Nat->Int) (k:Nat):List vL:=(List.range k).map fun i=> iN qi (ig B T i)
theorem LX (B:Bk) (T:Nat->Int) (k:Nat):kW B T (k+1)=kW B T k++ [iN qi (ig B T k)]:=by
 unfold kW;rw[List.range_succ,List.map_append];rfl
def qP (w:wD) (B:Bk) (xs:List Int) (e:Ending) (w':wD):Prop:=
 if aH B xs true=0 then ∃v,e= rT (.tuple #[v,iN qi 0])/\w'.ownsRow w.heap.size 3 1 v xs.length (kW B (trk xs) xs.length)/\bX w.heap.size w w'
 else e= rT (.tuple #[sL none 0 0,iN qi (aH B xs true)])/\bX w.heap.size w w'
theorem _root_.Go.World.ownsRow.base {w:wD} {b b':Nat} {e:TypeId} {s:Nat} {v:vL} {n:Nat} {xs:List vL} (h:w.ownsRow b e s v n xs) (hb:b'<=b):w.ownsRow b' e s v n xs:=by
 obtain⟨h1,h2 |⟨g,cap,cur,h3,h4,h5⟩⟩:=h
 ·exact⟨h1,.inl h2⟩
 ·exact⟨h1,.inr ⟨g,cap,cur,h3,Nat.le_trans hb h4,h5⟩⟩
theorem c27 (V:BkV) (B:Bk) (xs:List Int) (xa:Option Addr) (xc:Nat) (w:wD) (hs:aB w V B) (hv:Vars w) (hx:SlI w xa xs) (hxl:xs.length<=1000000):
  cF tP 18 #[V.val B,sL xa xs.length xc] w (qP w B xs):=by
 by_cases hok:aH B xs true=0
 ·refine Calls.mono (R:=fun e w'=> ∃v,e= rT (.tuple #[v,iN qi 0])/\w'.ownsRow w.heap.size 3 1 v xs.length (kW B (trk xs) xs.length)/\bX w.heap.size w w') ?_ (fun e w' h=>by unfold qP;rw[if_pos hok];exact h);obtain⟨h0,h1,h2⟩:=nN hok;have hG:=gY h0;have hF:=hG.fine;have hl:=hF.links;have ht:=hF.towns;have hh:=hF.hours;have hp:=hF.pairs;unfold Bk.spokes at hl;obtain⟨tb,tofs,rfl,hT⟩:=tq hx h1 (by omega) h2;obtain⟨ta,la,pa,tc,lc,pc⟩:=V;have hb0:bX w.heap.size w (w.alloc (cL #[iN qi B.hours,sL ta B.towns.length tc,sL la B.links.length lc,sL pa B.pairs.length pc] 26)):=(bR _ _).alloc (nR _) _;have HC:=lH (c55 ⟨ta,la,pa,tc,lc,pc⟩ B xs (some ⟨tb,tofs,none⟩) xc true _ (hs.below hb0 (nR _)) (hv.v2.below hb0 (nR _)) (hx.below hb0 (nR _)) hxl);have HB0:=lH hb0;have HS:=lH hs;have HV:=lH hv;have HT:=lH hT;have HF:=lH hF;have H1:=lH h1;have Hl:=lH hl;have Hbd:=lH (fun j=>Eu hF hT.pos j B.hours.toNat);have Htr:=lH (lZ h2);clear hs hv hx hb0 hT hF h1 h2 h0 hG hl ht hh hp;obtain⟨i0,hi,hz0,hz1,hz2⟩:=info_parts info3;go_enter Tryd.func18,Tryd.ntmps18
  go_wp2_with fail
  refine HC.out.mono ?_;rintro e w1 ⟨rfl,hb1⟩;rw[hok,jE];have Hbw:=lH (HB0.out.trans (hb1.mono (by simp)));clear hb1 HC;rw[H1.out];have hb2: ∀o:Obj,bX w.heap.size w (w1.alloc o):=fun o=>Hbw.out.alloc Hbw.out.size o
  go_wp2_with fail
  refine(c74 ⟨ta,la,pa,tc,lc,pc⟩ B HF.out tb tofs xc (trk xs) _ (HS.out.at.below (hb2 _) (nR _)) (HT.out.below (hb2 _) (nR _)) (aoF (hb2 _) HV.out.g1 (nR _))).mono ?_;rintro e w2 ⟨rfl,hb3⟩;have Hb3:=lH ((hb2 _).trans (hb3.mono (hb2 _).size));clear hb2 hb3;have HP:Hid (aZ B (trk xs)=bW B (trk xs) B.hours.toNat):=lH rfl;have HSp:Hid (∀k,ig B (trk xs) k=max 0 (trk xs k-aZ B (trk xs) k)):=lH fun k=>rfl;rw[<-HP.out] at Hbd;clear HP;generalize aZ B (trk xs)=p at *;go_wp2;generalize hWd:(w2.alloc (cL #[iN qi (p 0),iN qi (p 1),iN qi (p 2),iN qi (p 3),iN qi (p 4),iN qi (p 5)] 91))=W;have hW: ∀j,j<6->W.cell? ⟨w2.heap.size,j,none⟩=some (iN qi (p j)):=fun j hj=>by
   subst hWd
   match j,hj with
   | 0,_ | 1,_ | 2,_ | 3,_ | 4,_ | 5,_=>go_simp
  have HW:=lH hW;have HBW:Hid (bX w.heap.size w W):=lH (by subst hWd;exact Hb3.out.alloc Hb3.out.size _);clear hW hWd
  go_loopw [9,26] (fun v i wr=> ∃k:Nat,k<=B.links.length/\i= iN qi (k:Int)/\wr.ownsRow W.heap.size 3 1 v k (kW B (trk xs) k)/\bX W.heap.size W wr) (fun _ i _=>B.links.length-(intOf i).toNat)
  case atStart=>exact⟨0,Nat.zero_le _,rfl,World.ownsRow_nil _ _ _ _,bR _ _⟩
  case round=>
   obtain⟨k,hk,rfl,hown,hb⟩:=hrel;have Hown:=lH hown;have Hb:=lH hb;clear hown hb;by_cases hlt:k<B.links.length
   ·have hbk:=HBW.out.trans (Hb.out.mono HBW.out.size);have hk6:k<6:=by have:=Hl.out;omega
    have htk:wr.cell? ⟨tb,tofs+k,none⟩=some (iN qi (trk xs k)):=(HT.out.below hbk (nR _)).get k hlt;have hpk:wr.cell? ⟨w2.heap.size,k,none⟩=some (iN qi (p k)):=aoF Hb.out (HW.out k hk6) (nR _);have hk6':(k:Int)<6:=by omega
    have hk0:(0 :Int)<=(k:Int):=Int.natCast_nonneg _;have hwr:IntKind.wrap qi (trk xs k-p k)=trk xs k-p k:=IntWalk.i64_in _ (by
     have h1:=Hbd.out k;have h2:=Htr.out k;omega)
    have Hwr:=lH hbk;have HSk:=lH (HSp.out k);clear hbk;by_cases hc:0<trk xs k-p k
    ·have Hx:Hid (ig B (trk xs) k=trk xs k-p k):=lH (by rw[HSk.out];omega)
     go_wp2_with (at_builtin;refine wpList_append_own _ rfl _ _ 42 rfl W.heap.size 3 i0 (iN qi 0) 1 8 Tryd.underlying42 hi hz0 hz1 hz2 rfl (by decide) _ _ _ rfl (Hown.out.alloc _) ⟨wr.heap.size,0,none⟩ 1 1 [iN qi (trk xs k-p k)] rfl rfl ?c1 ?c2 ?c3 ?c4 ?c5 ?_)
     case c1=>
      intro j u hj
      match j,hj with
      | 0,hj=>simp at hj;subst hj;simp[Addr.add]
     case c2=>intro u hu;simp at hu;subst hu;rfl
     case c3=>have:=Hl.out;unfold maxLen;omega
     case c4=>have:=Hl.out;omega
     case c5=>have:=Hb.out.size;simp;omega
     intro v' w4 hown' hgrow _;have R:=Bo Hb.out Hown.out hown' hgrow;rw[<-Hx.out,<-LX] at R;have HR:=lH R;clear hown' hgrow R;go_wp2;go_roundw
     case rel=>exact⟨k+1,by omega,by go_num,HR.out.1,HR.out.2⟩
     case measure=>simp[intOf];omega
    ·have Hx:Hid (ig B (trk xs) k=0):=lH (by rw[HSk.out];omega)
     go_wp2_with (at_builtin;refine wpList_append_own _ rfl _ _ 42 rfl W.heap.size 3 i0 (iN qi 0) 1 8 Tryd.underlying42 hi hz0 hz1 hz2 rfl (by decide) _ _ _ rfl (Hown.out.alloc _) ⟨wr.heap.size,0,none⟩ 1 1 [iN qi (0)] rfl rfl ?d1 ?d2 ?d3 ?d4 ?d5 ?_)
     case d2=>rfl
     case d3=>have:=Hl.out;unfold maxLen;omega
     case d4=>have:=Hl.out;omega
     case d5=>have:=Hb.out.size;simp;omega
     intro v' w4 hown' hgrow _;have R:=Bo Hb.out Hown.out hown' hgrow;rw[<-Hx.out,<-LX] at R;have HR:=lH R;clear hown' hgrow R;go_wp2;go_roundw
     case rel=>exact⟨k+1,by omega,by go_num,HR.out.1,HR.out.2⟩
     case measure=>simp[intOf];omega
   ·have hke:k=B.links.length:=by omega
    rw[hke] at Hown;have Hbk:=lH (HBW.out.trans (Hb.out.mono HBW.out.size));clear hke;go_wp2
    go_ret2
    refine⟨u9,rfl, ?_,Hbk.out⟩
    first
     |exact Hown.out.base HBW.out.size
     | (rw[H1.out];exact Hown.out.base HBW.out.size)
 ·refine Calls.mono (R:=fun e w'=>e= rT (.tuple #[sL none 0 0,iN qi (aH B xs true)])/\bX w.heap.size w w') ?_ (fun e w' h=>by unfold qP;rw[if_neg hok];exact h);obtain⟨ta,la,pa,tc,lc,pc⟩:=V;have hb0:bX w.heap.size w (w.alloc (cL #[iN qi B.hours,sL ta B.towns.length tc,sL la B.links.length lc,sL pa B.pairs.length pc] 26)):=(bR _ _).alloc (nR _) _;have HC:=lH (c55 ⟨ta,la,pa,tc,lc,pc⟩ B xs xa xc true _ (hs.below hb0 (nR _)) (hv.v2.below hb0 (nR _)) (hx.below hb0 (nR _)) hxl);have HB0:=lH hb0;clear hs hv hx hb0;generalize aH B xs true=al at *;go_enter Tryd.func18,Tryd.ntmps18
  go_wp2_with fail
  refine HC.out.mono ?_;rintro e w1 ⟨rfl,hb1⟩;rw[lC hok];have Hbw:=lH (HB0.out.trans (hb1.mono (by simp)));clear hb1;go_wp2
  go_ret2
  exact⟨rfl,Hbw.out.trans ((bR _ _).alloc Hbw.out.size _)⟩
theorem YQ (V:BkV) (B:Bk) (hB:B.Fine) (tb tofs tcap:Nat) (T c:Nat->Int) (p1:vL) (w:wD) (hat:bT w V B)
  (hT: ∀k,k<B.links.length->w.cell? ⟨tb,tofs+k,none⟩=some (iN qi (T k))) (hT0: ∀k,0<=T k) (hc: ∀i,i<B.pairs.length->0<=c i/\c i<=5)
  (hcl: ∀(i:Nat) (w1:wD),i<B.pairs.length->bX w.heap.size w w1->cF tP 55 #[iN qi (i:Int),p1] w1 fun e w'=>e= rT (iN qi (c i))/\bX w1.heap.size w1 w'):
  cF tP 54 #[V.val B,sL (some ⟨tb,tofs,none⟩) B.links.length tcap,.func (.func 55) #[] #[p1]] w
   fun e w'=>e= rT (.agg #[iN qi (B.load T c 0),iN qi (B.load T c 1),iN qi (B.load T c 2),iN qi (B.load T c 3),iN qi (B.load T c 4),iN qi (B.load T c 5)])/\bX w.heap.size w w':=by
 obtain⟨ta,la,pa,tc,lc,pc⟩:=V;have hl:=hB.links;have ht:=hB.towns;have hp:=hB.pairs;unfold Bk.spokes at hl;go_enter Tryd.func54,Tryd.ntmps54
 go_wp2_with fail
 go_loopw [16] (fun i wr=> ∃k:Nat,k<=B.pairs.length/\i= iN qi (k:Int)/\LdR w la pa B lc pc (iN qi B.hours) (sL ta B.towns.length tc) (B.loadTo T c k) wr) (fun i _=>B.pairs.length-(intOf i).toNat)
 case atStart=>
  refine⟨0,Nat.zero_le _,rfl,⟨((((bR _ _).alloc (nR _) _).alloc (by simp) _).alloc (by simp;omega) _),by simp,by go_simp,by go_simp,by go_simp,by go_simp,fun j hj=> ?_,fun j hj=> ?_⟩⟩
  ·match j,hj with
   | 0,_ | 1,_ | 2,_ | 3,_ | 4,_ | 5,_=>exact⟨⟨_,by go_simp;rfl⟩,by go_simp⟩
  ·match j,hj with
   | 0,_ | 1,_ | 2,_ | 3,_ | 4,_ | 5,_=>exact⟨by go_simp;rfl,by go_simp⟩
 case round=>
  obtain⟨k,hk,rfl,hR⟩:=hrel;have hy3:=hR.b3;by_cases hlt:k<B.pairs.length
  ·have hL:B.pairs[k]? =some B.pairs[k]:=lG hlt;obtain⟨he1,he2,he3⟩:=hB.ends k hlt;have hpo:B.pone k=B.pairs[k].one:=by unfold Bk.pone;rw[hL];rfl
   have hpt:B.ptwo k=B.pairs[k].two:=by unfold Bk.ptwo;rw[hL];rfl
   obtain⟨pb,po,sa,sc,g1,g2,g3,g4,_⟩:=(hat.below hR.below (nR _)).pairs _ _ hL;simp only at g1;subst g1;rw[<-hpo] at g2;rw[<-hpt] at g3;generalize B.pairs[k].calls.length=cn at g4;have hs:=hR.size
   go_wp2_with fail
   refine(hcl k _ hlt (hR.below.trans (((bR _ _).alloc (nR _) _).mono (by omega)))).mono ?_;rintro e w2 ⟨rfl,hb2⟩;have hx0:w2.cell? ⟨wr.heap.size,0,none⟩=some (iN qi (B.pone k)):=by rw[(ak hb2).1 _ _ (by simp)];go_simp
   have hx1:w2.cell? ⟨wr.heap.size,1,none⟩=some (iN qi (B.ptwo k)):=by rw[(ak hb2).1 _ _ (by simp)];go_simp
   have hs2:wr.heap.size+1<=w2.heap.size:=by have:=hb2.size;simpa using this
   have hR2:=hR.step (((bR _ _).alloc (nR _) _).trans (hb2.mono (by simp)));have hf:B.loadTo T c (k+1)=B.go T (c k) (B.pone k) (B.ptwo k) (B.loadTo T c k):=rfl;have hfb:=vJ B hB T c hT0 hc k (by omega);obtain⟨hc0,hc1⟩:=hc k hlt;generalize B.loadTo T c k=f at *;generalize B.pone k=a at *;generalize B.ptwo k=b at *;generalize c k=n at *;have Hf:=lH hf;have Hfb:=lH hfb;have HT:=lH hT;have HR2:=lH hR2;clear hf hfb hT hR2 hR hb2 g2 g3 g4 hL hpo hpt hcl hy3;have hz0:w.heap.size<w2.heap.size:=by omega
   have hz1:w.heap.size+1<w2.heap.size:=by omega
   have hz2:w.heap.size+2<w2.heap.size:=by omega
   have hb6:b.toNat-1<6:=by omega
   have hbt:(b-1).toNat=b.toNat-1:=by omega
   have Hbt:=lH hbt;clear hbt;obtain⟨hbo1,hbo2⟩:w2.cell? ⟨w.heap.size+1+1,b.toNat-1,none⟩=some (iN qi (f (b.toNat-1)))/\w2.frozen? ⟨w.heap.size+1+1,b.toNat-1,none⟩=false:=HR2.out.out (b.toNat-1) hb6;obtain⟨hbb0,hbb1⟩:0<=f (b.toNat-1)/\f (b.toNat-1)<=30:=by have:=Hfb.out (b.toNat-1);omega
   by_cases ha:a=0
   ·subst ha;go_wp2;go_roundw
    case rel=>exact⟨k+1,by omega,by go_num,by
     rw[Hf.out];unfold Bk.go;rw[if_pos rfl,Hbt.out];exact HR2.out.set hb6 _⟩
    case measure=>simp[intOf];omega
   ·have ha1:1<=a:=by omega
    have hx10:=HR2.out.b0;have hx11:=HR2.out.b1;have hx12:=HR2.out.b2;have hx13:=HR2.out.b3;have hBat:bT w2 ⟨ta,la,some ⟨pb,po,none⟩,tc,lc,pc⟩ B:=hat.below HR2.out.below (nR _);have HBat:=lH hBat;clear hBat hat
    go_wp2_with fail
    refine(vM ⟨ta,la,some ⟨pb,po,none⟩,tc,lc,pc⟩ B hB a b _ HBat.out).mono ?_;rintro e w3 ⟨rfl,hb3⟩;have hR3:=HR2.out.step hb3;have hy0:w3.cell? ⟨wr.heap.size,0,none⟩=some (iN qi a):=by rw[(ak hb3).1 _ _ (by omega)];exact hx0
    have hy1:w3.cell? ⟨wr.heap.size,1,none⟩=some (iN qi b):=by rw[(ak hb3).1 _ _ (by omega)];exact hx1
    have hs3:=hb3.size;clear hx10 hx11 hx12 hx13 hbo1 hbo2 hx0 hx1 hb3 HBat HR2;have HR3:=lH hR3;clear hR3;have ha6:a.toNat-1<6:=by omega
    have hat1:(a-1).toNat=a.toNat-1:=by omega
    have Hat:=lH hat1;clear hat1;obtain⟨hbo1,hbo2⟩:w3.cell? ⟨w.heap.size+1+1,b.toNat-1,none⟩=some (iN qi (f (b.toNat-1)))/\w3.frozen? ⟨w.heap.size+1+1,b.toNat-1,none⟩=false:=HR3.out.out (b.toNat-1) hb6;obtain⟨hao1,hao2⟩:w3.cell? ⟨w.heap.size+1+1,a.toNat-1,none⟩=some (iN qi (f (a.toNat-1)))/\w3.frozen? ⟨w.heap.size+1+1,a.toNat-1,none⟩=false:=HR3.out.out (a.toNat-1) ha6;obtain⟨haa0,haa1⟩:0<=f (a.toNat-1)/\f (a.toNat-1)<=30:=by have:=Hfb.out (a.toNat-1);omega
    have hab: ¬a.toNat-1=b.toNat-1:=by omega
    have hba: ¬b.toNat-1=a.toNat-1:=by omega
    have hdb:=pF B hB a b;unfold Bk.go at Hf;rw[if_neg ha] at Hf;unfold Bk.spokes at hdb;generalize B.direct a b=dv at *
    rcases hdb with hdv |⟨hd0,hd1⟩
    ·subst hdv
     go_wp2_with fail
     go_roundw
     case rel=>exact⟨k+1,by omega,by go_num,by
      rw[Hf.out,Hbt.out,Hat.out,if_neg (by decide),if_neg (by decide),dQ _ _ hba,Int.sub_zero];exact(HR3.out.set ha6 _).set hb6 _⟩
     case measure=>simp[intOf];omega
    ·obtain⟨kd,rfl⟩:=Int.eq_ofNat_of_zero_le (show 0<=dv by omega);have hkd6:kd<6:=by omega
     have hka: ¬kd=a.toNat-1:=by omega
     have hkb: ¬kd=b.toNat-1:=by omega
     have hak: ¬a.toNat-1=kd:=by omega
     have hbk: ¬b.toNat-1=kd:=by omega
     obtain⟨hko1,hko2⟩:w3.cell? ⟨w.heap.size+1+1,kd,none⟩=some (iN qi (f kd))/\w3.frozen? ⟨w.heap.size+1+1,kd,none⟩=false:=HR3.out.out kd hkd6;have htk:w3.cell? ⟨tb,tofs+kd,none⟩=some (iN qi (T kd)):=aoF HR3.out.below (HT.out kd (by omega)) (nR _);have hTk0:=hT0 kd;by_cases hmin:T kd<n
     ·go_wp2_with fail
      go_roundw
      case rel=>exact⟨k+1,by omega,by go_num,by
       rw[Hf.out,Hbt.out,Hat.out,if_pos (by omega),if_pos (by omega),Int.toNat_natCast,dQ _ _ hba,dQ _ _ hak,dQ _ _ hbk,show min n (T kd)=T kd by omega];exact((HR3.out.set hkd6 _).set ha6 _).set hb6 _⟩
      case measure=>simp[intOf];omega
     ·go_wp2_with fail
      go_roundw
      case rel=>exact⟨k+1,by omega,by go_num,by
       rw[Hf.out,Hbt.out,Hat.out,if_pos (by omega),if_pos (by omega),Int.toNat_natCast,dQ _ _ hba,dQ _ _ hak,dQ _ _ hbk,show min n (T kd)=n by omega,Int.sub_self,Int.add_zero,Int.add_zero];exact((HR3.out.set hkd6 _).set ha6 _).set hb6 _⟩
      case measure=>simp[intOf];omega
  ·have hke:k=B.pairs.length:=by omega
   have hbw:=hR.below;have hs:=hR.size;have ho0:wr.cell? ⟨w.heap.size+1+1,0,none⟩=some (iN qi (B.loadTo T c k 0)):=(hR.out 0 (by omega)).1;obtain⟨⟨v0,hr0⟩,hq0⟩:=hR.res 0 (by omega);have ho1:wr.cell? ⟨w.heap.size+1+1,1,none⟩=some (iN qi (B.loadTo T c k 1)):=(hR.out 1 (by omega)).1;obtain⟨⟨v1,hr1⟩,hq1⟩:=hR.res 1 (by omega);have ho2:wr.cell? ⟨w.heap.size+1+1,2,none⟩=some (iN qi (B.loadTo T c k 2)):=(hR.out 2 (by omega)).1;obtain⟨⟨v2,hr2⟩,hq2⟩:=hR.res 2 (by omega);have ho3:wr.cell? ⟨w.heap.size+1+1,3,none⟩=some (iN qi (B.loadTo T c k 3)):=(hR.out 3 (by omega)).1;obtain⟨⟨v3,hr3⟩,hq3⟩:=hR.res 3 (by omega);have ho4:wr.cell? ⟨w.heap.size+1+1,4,none⟩=some (iN qi (B.loadTo T c k 4)):=(hR.out 4 (by omega)).1;obtain⟨⟨v4,hr4⟩,hq4⟩:=hR.res 4 (by omega);have ho5:wr.cell? ⟨w.heap.size+1+1,5,none⟩=some (iN qi (B.loadTo T c k 5)):=(hR.out 5 (by omega)).1;obtain⟨⟨v5,hr5⟩,hq5⟩:=hR.res 5 (by omega);have Hke:=lH hke;clear hke;have hN: ¬w.heap.size+1=w.heap.size+2:=by omega
   have hfin:B.load T c=B.loadTo T c k:=by rw[Hke.out];rfl
   have HF:=lH hfin;have Hbw:=lH hbw;clear hfin hbw hR hat hT hcl hc;generalize B.loadTo T c k=f at *;go_wp2;refine bodyPost_ret (v:= .agg #[iN qi (f 0),iN qi (f 1),iN qi (f 2),iN qi (f 3),iN qi (f 4),iN qi (f 5)]) (by simp[results,Tryd.results54,go_sem,hr0,hr1,hr2,hr3,hr4,hr5]) rfl ⟨by rw[HF.out], ?_⟩;exact Hbw.out.trans ((((((bR _ _).setCell (by simp) _).setCell (by simp) _).setCell (by simp) _).setCell (by simp) _).setCell (by simp) _ |>.setCell (by simp) _)
def tu (l:List Int):Bool:=l.any fun n=> !btw n 0 5
theorem LY (l:List Int) (sa:Option Addr) (n cap:Nat) (w:wD) (hn:n=l.length) (hs:SlI w sa l) (hl:l.length<=1000000):
  cF tP 52 #[sL sa n cap,.func (.func 53) #[] #[]] w fun e w'=>e= rT (.bool (tu l))/\bX w.heap.size w w':=
 c67 53 (fun x=> !btw x 0 5) sa l n cap w hn hs hl (cf Tryd.func53 (by rfl) (by rfl)) (fun x w1 _=>c68 x w1)
theorem c72 (i:Nat) (b sb so n cap:Nat) (x:Int) (w:wD) (hi:i<n) (hb:w.cell? ⟨b,0,none⟩=some (sL (some ⟨sb,so,none⟩) n cap)) (hx:w.cell? ⟨sb,so+i,none⟩=some (iN qi x)):
  cF tP 55 #[iN qi (i:Int),pN (some ⟨b,0,none⟩)] w fun e w'=>e= rT (iN qi x)/\w'=w:=by
 have hi0:(0 :Int)<=(i:Int):=Int.natCast_nonneg _;have hi1:(i:Int)<(n:Int):=by omega
 go_enter Tryd.func55,Tryd.ntmps55;go_wp2;go_ret;exact⟨rfl,rfl⟩
def Ew (B:Bk) (xs cs:List Int):Bool:=decide (B.lack (B.load (trk xs) (trk cs)) (trk xs)<0)
def fitsV (B:Bk) (xs cs:List Int):vL:=
 if aH B xs true=0 then (if cs.length=B.pairs.length then (if tu cs=true then .tuple #[.bool false,iN qi 1] else .tuple #[.bool (Ew B xs cs),iN qi 0]) else .tuple #[.bool false,iN qi 2]) else .tuple #[.bool false,iN qi (aH B xs true)]
theorem YR {l:List Int} (h:tu l=false) (k:Nat):0<=trk l k/\trk l k<=5:=by
 unfold tu at h;rw[List.any_eq_false] at h;unfold trk;rw[lD]
 cases e:l[k]? with
 |none=>simp
 |some x=>
  have:=h x (List.mem_of_getElem? e);simp only[Bool.not_eq_true',Bool.not_eq_false] at this;have:=fK this;simpa using this
theorem oL {w:wD} {xs:List Int} {xa:Option Addr} (hx:SlI w xa xs) {k:Nat} (hk:k<xs.length): ∃tb tofs,xa=some ⟨tb,tofs,none⟩/\w.cell? ⟨tb,tofs+k,none⟩=some (iN qi (trk xs k)):=by
 have hk':xs[k]? =some xs[k]:=lG hk;obtain⟨b,o,e2,h3⟩:=hx k _ hk';have:trk xs k=xs[k]:=by
  unfold trk;rw[lD,hk'];rfl
 exact⟨b,o,e2,by rw[this];exact h3⟩
theorem YS {w w' w'':wD} {b b5:Nat} {v0 v1 v2 v3 v5:vL} (hb:bX w'.heap.size w' w'') (h:bX w.heap.size w w') (c0:w'.cell? ⟨b,0,none⟩=some v0) (c1:w'.cell? ⟨b,1,none⟩=some v1) (c2:w'.cell? ⟨b,2,none⟩=some v2) (c3:w'.cell? ⟨b,3,none⟩=some v3) (c5:w'.cell? ⟨b5,0,none⟩=some v5):
  bX w.heap.size w w''/\w''.cell? ⟨b,0,none⟩=some v0/\w''.cell? ⟨b,1,none⟩=some v1/\w''.cell? ⟨b,2,none⟩=some v2/\w''.cell? ⟨b,3,none⟩=some v3/\w''.cell? ⟨b5,0,none⟩=some v5:=
 ⟨h.trans (hb.mono h.size),aoF hb c0 (nR _),aoF hb c1 (nR _),aoF hb c2 (nR _),aoF hb c3 (nR _),aoF hb c5 (nR _)⟩
theorem c23 (V:BkV) (B:Bk) (xs cs:List Int) (xa ca:Option Addr) (xc cc:Nat) (w:wD) (hs:aB w V B) (hv:Vars w) (hx:SlI w xa xs) (hxl:xs.length<=1000000) (hc:SlI w ca cs) (hcl:cs.length<=1000000):
  cF tP 24 #[V.val B,sL xa xs.length xc,sL ca cs.length cc] w fun e w'=>e= rT (fitsV B xs cs)/\bX w.heap.size w w':=by
 obtain⟨ta,la,pa,tc,lc,pc⟩:=V;have hb0: ∀o1 o2:Obj,bX w.heap.size w ((w.alloc o1).alloc o2):=fun o1 o2=>((bR _ _).alloc (nR _) _).alloc (by simp) _;have HC:Hid (∀o1 o2:Obj,_):=lH (fun o1 o2=>c55 ⟨ta,la,pa,tc,lc,pc⟩ B xs xa xc true _ (hs.below (hb0 o1 o2) (nR _)) (hv.v2.below (hb0 o1 o2) (nR _)) (hx.below (hb0 o1 o2) (nR _)) hxl);have HB0:=lH hb0;have HCs:=lH hc;by_cases hok:aH B xs true=0
 ·by_cases hlen:cs.length=B.pairs.length
  ·cases hbad:tu cs with
   |true=>
    have HE:=lH (show fitsV B xs cs= .tuple #[.bool false,iN qi 1] by unfold fitsV;rw[if_pos hok,if_pos hlen,if_pos hbad]);have hne1:((cs.length:Int) != (B.pairs.length:Int))=false:=by simp[hlen]
    have hne2:(cs.length != B.pairs.length)=false:=by simp[hlen]
    clear hs hv hx hb0 hc hlen;go_enter Tryd.func24,Tryd.ntmps24
    go_wp2_with fail
    refine(HC.out _ _).mono ?_;rintro e w1 ⟨rfl,hb1⟩;rw[hok,jE];have Hbw:=lH ((HB0.out _ _).trans (hb1.mono (by simp;omega)));have hz:w.heap.size+1<w1.heap.size:=by have:=hb1.size;simp at this;omega
    have c3:(w1.alloc (cL #[iN qi B.hours,sL ta B.towns.length tc,sL la B.links.length lc,sL pa B.pairs.length pc] 81)).cell? ⟨w.heap.size,3,none⟩=some (sL pa B.pairs.length pc):=by
     rw[(ak ((bR _ _).alloc (nR _) _)).1 _ _ (by omega),(ak hb1).1 _ _ (by simp;omega)];go_simp
    have c5:(w1.alloc (cL #[iN qi B.hours,sL ta B.towns.length tc,sL la B.links.length lc,sL pa B.pairs.length pc] 81)).cell? ⟨w.heap.size+1,0,none⟩=some (sL ca cs.length cc):=by
     rw[(ak ((bR _ _).alloc (nR _) _)).1 _ _ (by omega),(ak hb1).1 _ _ (by simp)];go_simp
    clear hb1 HC
    go_wp2_with fail
    have hb2: ∀o:Obj,bX w.heap.size w (w1.alloc o):=fun o=>Hbw.out.alloc Hbw.out.size o;refine(LY cs ca _ cc _ rfl (HCs.out.below (hb2 _) (nR _)) hcl).mono ?_;rintro e w2 ⟨rfl,hb3⟩;rw[hbad];have Hb3:=lH ((hb2 _).trans (hb3.mono (hb2 _).size));clear hb2 hb3;go_wp2
    go_ret2
    exact⟨by rw[HE.out];rfl,Hb3.out⟩
   |false=>
    obtain⟨h0,h1,h2⟩:=nN hok;have hG:=gY h0;have hF:=hG.fine;have hl:=hF.links;have ht:=hF.towns;unfold Bk.spokes at hl;obtain⟨tb,tofs,rfl,hT⟩:=tq hx h1 (by omega) h2;have HE:=lH (show fitsV B xs cs= .tuple #[.bool (decide (B.lack (B.load (trk xs) (trk cs)) (trk xs)<0)),iN qi 0] by unfold fitsV Ew;rw[if_pos hok,if_pos hlen,if_neg (by rw[hbad];decide)]);have H71:Hid (∀W,bX w.heap.size w W->W.cell? ⟨w.heap.size+1,0,none⟩=some (sL ca cs.length cc)->cF tP 54 #[.agg #[iN qi B.hours,sL ta B.towns.length tc,sL la B.links.length lc,sL pa B.pairs.length pc],sL (some ⟨tb,tofs,none⟩) B.links.length xc,.func (.func 55) #[] #[pN (some ⟨w.heap.size+1,0,none⟩)]] W fun e w'=>e= rT (ldv (B.load (trk xs) (trk cs)))/\bX W.heap.size W w'):=lH (fun W hW hb=>YQ ⟨ta,la,pa,tc,lc,pc⟩ B hF tb tofs xc (trk xs) (trk cs) _ W (hs.at.below hW (nR _)) (hT.below hW (nR _)).get hT.pos (fun i _=>YR hbad i) (fun i w1 hi hb1=>by
     obtain⟨sb,so,rfl,hx1⟩:=oL (hc.below (hW.trans (hb1.mono hW.size)) (nR _)) (k:=i) (by omega);refine(c72 i (w.heap.size+1) sb so cs.length cc (trk cs i) w1 (by omega) (aoF hb1 hb (nR _)) hx1).mono ?_;rintro e w' ⟨rfl,rfl⟩;exact⟨rfl,bR _ _⟩))
    generalize B.load (trk xs) (trk cs)=l at *;have H70:Hid (∀W,bX w.heap.size w W->cF tP 42 #[.agg #[iN qi B.hours,sL ta B.towns.length tc,sL la B.links.length lc,sL pa B.pairs.length pc],ldv l,sL (some ⟨tb,tofs,none⟩) B.links.length xc] W fun e w'=>e= rT (iN qi (B.lack l (trk xs)))/\bX W.heap.size W w'):=lH (fun W hW=>c70 ⟨ta,la,pa,tc,lc,pc⟩ B hF l tb tofs xc (trk xs) W (hT.below hW (nR _)));generalize B.lack l (trk xs)=y at *;have hne1:((cs.length:Int) != (B.pairs.length:Int))=false:=by simp[hlen]
    have hne2:(cs.length != B.pairs.length)=false:=by simp[hlen]
    have H1:=lH h1;clear hs hv hx hb0 hc hlen h0 h1 h2 hG hF hl ht hT;go_enter Tryd.func24,Tryd.ntmps24
    go_wp2_with fail
    refine(HC.out _ _).mono ?_;rintro e w1 ⟨rfl,hb1⟩;rw[hok,jE,H1.out];have Hbw:=lH ((HB0.out _ _).trans (hb1.mono (by simp;omega)));have hz:w.heap.size+1<w1.heap.size:=by have:=hb1.size;simp at this;omega
    have c3:(w1.alloc (cL #[iN qi B.hours,sL ta B.towns.length tc,sL la B.links.length lc,sL pa B.pairs.length pc] 81)).cell? ⟨w.heap.size,3,none⟩=some (sL pa B.pairs.length pc):=by
     rw[(ak ((bR _ _).alloc (nR _) _)).1 _ _ (by omega),(ak hb1).1 _ _ (by simp;omega)];go_simp
    have c5:(w1.alloc (cL #[iN qi B.hours,sL ta B.towns.length tc,sL la B.links.length lc,sL pa B.pairs.length pc] 81)).cell? ⟨w.heap.size+1,0,none⟩=some (sL ca cs.length cc):=by
     rw[(ak ((bR _ _).alloc (nR _) _)).1 _ _ (by omega),(ak hb1).1 _ _ (by simp)];go_simp
    clear hb1 HC
    go_wp2_with fail
    have hb2: ∀o:Obj,bX w.heap.size w (w1.alloc o):=fun o=>Hbw.out.alloc Hbw.out.size o;refine(LY cs ca _ cc _ rfl (HCs.out.below (hb2 _) (nR _)) hcl).mono ?_;rintro e w2 ⟨rfl,hb3⟩;rw[hbad];have hstart:bX w.heap.size w w2:=(hb2 _).trans (hb3.mono (hb2 _).size);have hz2:w1.heap.size<w2.heap.size:=by have:=hb3.size;simp at this;omega
    have k5:w2.cell? ⟨w.heap.size+1,0,none⟩=some (sL ca cs.length cc):=by rw[(ak hb3).1 _ _ (by simp;omega)];exact c5
    have k0:w2.cell? ⟨w1.heap.size,0,none⟩=some (iN qi B.hours):=by rw[(ak hb3).1 _ _ (by simp)];go_simp
    have k1:w2.cell? ⟨w1.heap.size,1,none⟩=some (sL ta B.towns.length tc):=by rw[(ak hb3).1 _ _ (by simp)];go_simp
    have k2:w2.cell? ⟨w1.heap.size,2,none⟩=some (sL la B.links.length lc):=by rw[(ak hb3).1 _ _ (by simp)];go_simp
    have k3:w2.cell? ⟨w1.heap.size,3,none⟩=some (sL pa B.pairs.length pc):=by rw[(ak hb3).1 _ _ (by simp)];go_simp
    have Hst:=lH hstart;clear hb2 hb3 c3 c5 hstart Hbw
    go_wp2_with fail
    have hstart:bX w.heap.size w w2.drew:=Hst.out.drew
    go_region_held3 (fun w'=>bX w.heap.size w w'/\w'.cell? ⟨w1.heap.size,0,none⟩=some (iN qi B.hours)/\w'.cell? ⟨w1.heap.size,1,none⟩=some (sL ta B.towns.length tc)/\w'.cell? ⟨w1.heap.size,2,none⟩=some (sL la B.links.length lc)/\w'.cell? ⟨w1.heap.size,3,none⟩=some (sL pa B.pairs.length pc)/\w'.cell? ⟨w.heap.size+1,0,none⟩=some (sL ca cs.length cc))
     (first
      |exact⟨hstart,k0,k1,k2,k3,k5⟩
      | (go_split_ands;exact YS (by assumption) (by assumption) (by assumption) (by assumption) (by assumption) (by assumption) (by assumption)))
     (first
      | (go_simp;go_at_call 54;go_split_ands;(with_reducible refine(H71.out _ (by assumption) (by assumption)).mono ?_);rintro e w1 ⟨rfl,hbel⟩)
      | (go_simp;go_at_call 42;go_split_ands;(with_reducible refine(H70.out _ (by assumption)).mono ?_);rintro e w1 ⟨rfl,hbel⟩))
    go_split_ands;have Hfin:Hid (bX w.heap.size w w1):=lH (by assumption);go_wp2
    go_ret2
    exact⟨by rw[HE.out];rfl,Hfin.out⟩
  ·have HE:=lH (show fitsV B xs cs= .tuple #[.bool false,iN qi 2] by unfold fitsV;rw[if_pos hok,if_neg hlen]);have hne1:((cs.length:Int) != (B.pairs.length:Int))=true:=by simp;omega
   have hne2:(cs.length != B.pairs.length)=true:=by simp[hlen]
   clear hs hv hx hb0 hc hlen;go_enter Tryd.func24,Tryd.ntmps24
   go_wp2_with fail
   refine(HC.out _ _).mono ?_;rintro e w1 ⟨rfl,hb1⟩;rw[hok,jE];have Hbw:=lH ((HB0.out _ _).trans (hb1.mono (by simp;omega)));have hz:w.heap.size+1<w1.heap.size:=by have:=hb1.size;simp at this;omega
   have c3:(w1.alloc (cL #[iN qi B.hours,sL ta B.towns.length tc,sL la B.links.length lc,sL pa B.pairs.length pc] 81)).cell? ⟨w.heap.size,3,none⟩=some (sL pa B.pairs.length pc):=by
    rw[(ak ((bR _ _).alloc (nR _) _)).1 _ _ (by omega),(ak hb1).1 _ _ (by simp;omega)];go_simp
   have c5:(w1.alloc (cL #[iN qi B.hours,sL ta B.towns.length tc,sL la B.links.length lc,sL pa B.pairs.length pc] 81)).cell? ⟨w.heap.size+1,0,none⟩=some (sL ca cs.length cc):=by
    rw[(ak ((bR _ _).alloc (nR _) _)).1 _ _ (by omega),(ak hb1).1 _ _ (by simp)];go_simp
   clear hb1 HC;go_wp2
   go_ret2
   exact⟨by rw[HE.out];rfl,Hbw.out.alloc Hbw.out.size _⟩
 ·have HE:=lH (show fitsV B xs cs= .tuple #[.bool false,iN qi (aH B xs true)] by unfold fitsV;rw[if_neg hok]);clear hs hv hx hb0 hc;generalize aH B xs true=al at *;go_enter Tryd.func24,Tryd.ntmps24
  go_wp2_with fail
  refine(HC.out _ _).mono ?_;rintro e w1 ⟨rfl,hb1⟩;rw[lC hok];have Hbw:=lH ((HB0.out _ _).trans (hb1.mono (by simp;omega)));clear hb1 HC;go_wp2
  go_ret2
  exact⟨by rw[HE.out];rfl,Hbw.out.alloc Hbw.out.size _⟩
end Go.Proofs.YtfiiffnbggnkfaaDoor
