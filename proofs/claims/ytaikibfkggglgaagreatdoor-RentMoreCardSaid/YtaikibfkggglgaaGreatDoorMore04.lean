/- A part of the proof of a law; no conditions of its own. -/
import Derived.Test.YtaikibfkggglgaaGreatDoorMore03
open Go.RowKit renaming Below→bX
open Go renaming Calls→cF, Value→vL, World→wD
open Go.IntKind renaming i64→qi
open Go.Value renaming int→iN, slice→sL, pointer→pN
open Go.Ending renaming returned→rT
open Go.Obj renaming cells→cL
set_option maxRecDepth 100000
open Go renaming undef→ud
open Nat renaming le_refl→nR
open Go.Lib renaming hid→lH
open Go.RowKit.Below renaming refl→bR
open Go.Proofs.Tryz renaming prog→tP
open List renaming getElem?_eq_getElem→lG
open List renaming getElem?_eq_some_iff→lS
set_option maxHeartbeats 4000000
namespace Go.Proofs.YtaikibfkggglgaaGreatDoor
open Go.RowKit Go.Rent Go.Tp Go.Conc
def amE (B:Bk) (x:Int) (n:Nat):List Int:=(List.range n).map fun j=>if ((B.spokes+j:Nat):Int)=x then 0 else 5
theorem anw (B:Bk) (x:Int) (n:Nat):ints (amE B x (n+1))=ints (amE B x n)++ [iN qi (if ((B.spokes+n:Nat):Int)=x then 0 else 5)]:=by
 unfold amE ints;rw[List.range_succ];simp
theorem amR (B:Bk) (x:Int) (n:Nat):(amE B x n).length=n:=by simp[amE]
theorem anx (B:Bk) (x:Int) (n:Nat): ∀i,i<(amE B x n).length->trk (amE B x n) i=(iY (mJ x) (B.spokes+i):Nat):=fun i hi=>by
 rw[amR] at hi;unfold trk amE iY mJ;rw[List.getD_eq_getElem?_getD,List.getElem?_map,List.getElem?_range hi];simp only[Option.map_some,Option.getD_some];by_cases h:((B.spokes+i:Nat):Int)=x
 ·have e:(((B.spokes+i:Nat):Int) != x)=false:=by simpa using h
  rw[if_pos h,e];rfl
 ·have e:(((B.spokes+i:Nat):Int) != x)=true:=by simpa using h
  rw[if_neg h,e];rfl
theorem anf {may may':Int->Bool} (h: ∀i,iY may i=iY may' i): ∀(m:Nat) (t:List Int),moreL may m t=moreL may' m t
 | 0,_=>rfl
 |m+1,t=>by
  unfold moreL;rw[h]
  congr 1
  funext n
  exact anf h m _
theorem anz {B:Bk} {may may':Int->Bool} (h: ∀i,iY may i=iY may' i):aC B may=aC B may':=by
 unfold aC oP;rw[anf h]
theorem ang (B:Bk):aC B (mJ (-1))=aC B aT:=anz fun i=>by
 unfold iY mJ aT;have:((i:Int) != -1)=true:=by simp
 rw[this]
theorem r59 (V:BkV) (B:Bk) (hB:B.Fine) (x:Int) (w:wD):
  cF tP 59 #[V.val B,iN qi x] w fun e w'=> ∃a c,e= rT (sL a (B.links.length-B.spokes) c)/\SlI w' a (amE B x (B.links.length-B.spokes))/\bX w.heap.size w w':=by
 have hll:=hB.links;have htt:=hB.towns;have HEnd:Hid (∀(v:vL) (u:wD),u.ownsRow w.heap.size 3 1 v (B.links.length-B.spokes) (ints (amE B x (B.links.length-B.spokes)))->bX w.heap.size w u-> ∃a c,(rT v:Ending)= rT (sL a (B.links.length-B.spokes) c)/\SlI u a (amE B x (B.links.length-B.spokes))/\bX w.heap.size w u):=lH fun v u ho hb=>by
  obtain⟨a,c,e,hs⟩:=aeU (amR B x _) ho;subst e;exact⟨a,c,rfl,hs,hb⟩
 have HSn:=lH (anw B x);have HS0:Hid (ints (amE B x 0)= []):=lH rfl;have hsp:B.spokes=B.towns.length-1:=rfl;rw[hsp] at hll HEnd HSn ⊢;obtain⟨ta,la,pa,tc,lc,pc⟩:=V;simp only[BkV.val] at *;have hl6:=hll.2;have hl1:=hll.1;have ht1:=htt.1;have ht4:=htt.2;clear hB hll htt hsp;obtain⟨i0,hi,hz0,hz1,hz2⟩:=info_parts info3;go_enter Tryz.func59,Tryz.ntmps59
 go_wp2_with fail
 refine(c73 B.hours ta B.towns.length tc la B.links.length lc pa B.pairs.length pc _ (by omega) (by omega)).mono ?_;rintro e W ⟨rfl,hb1⟩;have HBW:Hid (bX w.heap.size w W):=lH (((bR _ _).alloc (nR _) _).trans (hb1.mono (by simp)));have HW:=lH (amL (V:=⟨ta,la,pa,tc,lc,pc⟩) (by simpa using hb1));clear hb1
 go_wp2_with fail
 go_loopw [5,6] (fun v i wr=> ∃k:Nat,k<=B.links.length-(B.towns.length-1)/\i= iN qi ((B.towns.length-1+k:Nat):Int)/\wr.ownsRow W.heap.size 3 1 v k (ints (amE B x k))/\bX W.heap.size W wr) (fun _ i _=>B.links.length-(intOf i).toNat)
 case atStart=>exact⟨0,Nat.zero_le _,by simp,by rw[HS0.out];exact World.ownsRow_nil _ _ _ _,bR _ _⟩
 case round=>
  obtain⟨k,hk,rfl,hown,hb⟩:=hrel;have Hown:=lH hown;have Hb:=lH hb;clear hown hb;obtain⟨p0,p1,p2,p3⟩:=HW.out;have q2:=aoF Hb.out p2 (nR _);clear p0 p1 p2 p3;obtain⟨i,hik⟩: ∃i,i=B.towns.length-1+k:=⟨_,rfl⟩;rw[<-hik];have HSn1:=lH (HSn.out k);rw[<-hik] at HSn1;have HIK:=lH hik;have hil:i<=B.links.length:=by omega
  clear hik;have hsz:W.heap.size<=wr.heap.size:=Hb.out.size;have HSz:=lH hsz;clear hsz;by_cases hlt:i<B.links.length
  ·have hlt2:(i:Int)<(B.links.length:Int):=by omega
   have HN:Hid (∀y:Int,∀(j:Nat) (u:vL),([iN qi y]:List vL)[j]? =some u->(wr.alloc (cL #[iN qi y] 3)).cell? ((⟨wr.heap.size,0,none⟩:Addr).add j)=some u):=lH fun y j u hj=>by
    match j,hj with
    | 0,hj=>cases hj;simp only[Addr.add];go_simp
   by_cases hx:(i:Int)=x
   ·have hbe:((i:Int)==x)=true:=by simpa using hx
    rw[if_pos hx] at HSn1;clear hx
    go_wp2_with (at_builtin;refine wpList_append_own _ rfl _ _ 33 rfl W.heap.size 3 i0 (iN qi 0) 1 8 Tryz.underlying33 hi hz0 hz1 hz2 rfl (by decide) _ _ _ rfl (Hown.out.alloc _) ⟨wr.heap.size,0,none⟩ 1 1 [iN qi 0] rfl rfl (HN.out 0) (by simp[Value.oneCell']) (by unfold maxLen;omega) (by omega) (by simp only[World.size_alloc];have:=HSz.out;omega) ?_)
    intro v' w4 hown' hgrow _;have HR:=lH (Bo Hb.out Hown.out hown' hgrow);rw[<-HSn1.out] at HR;clear hown' hgrow;go_wp2;go_roundw
    case rel=>exact⟨k+1,by have:=HIK.out;omega,by rw[show B.towns.length-1+(k+1)=i+1 by have:=HIK.out;omega];go_num,HR.out.1,HR.out.2⟩
    case measure=>simp[intOf];omega
   ·have hbe:((i:Int)==x)=false:=by simpa using hx
    rw[if_neg hx] at HSn1;clear hx
    go_wp2_with (at_builtin;refine wpList_append_own _ rfl _ _ 33 rfl W.heap.size 3 i0 (iN qi 0) 1 8 Tryz.underlying33 hi hz0 hz1 hz2 rfl (by decide) _ _ _ rfl (Hown.out.alloc _) ⟨wr.heap.size,0,none⟩ 1 1 [iN qi 5] rfl rfl (HN.out 5) (by simp[Value.oneCell']) (by unfold maxLen;omega) (by omega) (by simp only[World.size_alloc];have:=HSz.out;omega) ?_)
    intro v' w4 hown' hgrow _;have HR:=lH (Bo Hb.out Hown.out hown' hgrow);rw[<-HSn1.out] at HR;clear hown' hgrow;go_wp2;go_roundw
    case rel=>exact⟨k+1,by have:=HIK.out;omega,by rw[show B.towns.length-1+(k+1)=i+1 by have:=HIK.out;omega];go_num,HR.out.1,HR.out.2⟩
    case measure=>simp[intOf];omega
  ·have hke:k=B.links.length-(B.towns.length-1):=by have:=HIK.out;omega
   subst hke;have HF:=lH (HEnd.out u5 wr (Hown.out.base HBW.out.size) (HBW.out.trans (Hb.out.mono HBW.out.size)));have hlt2: ¬(i:Int)<(B.links.length:Int):=by omega
   go_wp2;go_ret;obtain⟨a,c,e1,h1,h2⟩:=HF.out;exact⟨a,⟨c,e1⟩,h1,h2⟩
theorem amS {B:Bk} (hG:Good B) (may:Int->Bool):0<=(aC B may).2/\(aC B may).2<=17820:=by
 obtain⟨t,_,_,h5,_,e⟩:=aea hG may;have hT: ∀k,0<=trk t k/\trk t k<=5:=fun k=>aob h5 (by omega) k;rw[e];unfold adt;have hll:=hG.fine.links;have:=ED hG (T:=trk (jC B t)) (fun k=>by
  rw[adD]
  split
  ·exact ZJ hG.fine (fun k=>(hT k).1) k
  ·have:=hT k;omega) B.links.length
 omega
theorem am2 (V:BkV) (B:Bk) (hB:B.Fine) (x:Int) (u:wD):cF tP 59 #[V.val B,iN qi x] u fun e u'=> ∃a c,e= rT (sL a (B.links.length-B.spokes) c)/\SlI u' a (amE B x (B.links.length-B.spokes))/\bX u.heap.size u u':=r59 V B hB x u
theorem am3 (V:BkV) (B:Bk) (hG:Good B) (x:Int) {w:wD} (hs:aB w V B) (a:Option Addr) (c:Nat) (u:wD) (hu:bX w.heap.size w u) (hm:SlI u a (amE B x (B.links.length-B.spokes))):
  cF tP 58 #[V.val B,sL a (B.links.length-B.spokes) c] u fun e u'=> ∃ba bc,e= rT (.tuple #[sL ba B.links.length bc,iN qi (aC B (mJ x)).2])/\SlI u' ba (aC B (mJ x)).1/\(aC B (mJ x)).1.length=B.links.length/\bX u.heap.size u u':=by
 have h:=r58 V B hG (mJ x) _ (amR B x _) (anx B x _) a c u (hs.below hu (nR _)) hm;rwa [amR] at h
theorem r13 (V:BkV) (B:Bk) (xs:List Int) (xa:Option Addr) (xc:Nat) (w:wD) (hs:aB w V B) (hz: ∀t∈B.towns,t.size<=1000000) (hx:SlI w xa xs) (hxl:xs.length<=1000000):
  cF tP 13 #[V.val B,sL xa xs.length xc] w fun e w'=>e= rT (oM B xs)/\bX w.heap.size w w':=by
 have hb0:bX w.heap.size w (w.alloc (cL #[iN qi B.hours,sL V.ta B.towns.length V.tc,sL V.la B.links.length V.lc,sL V.pa B.pairs.length V.pc] 26)):=(bR _ _).alloc (nR _) _;have HC:=lH (c58 V B xs xa xc _ (hs.below hb0 (nR _)) hz (hx.below hb0 (nR _)) hxl);have HB0:=lH hb0;clear hb0 hz;by_cases hok:aH B xs true=0
 ·obtain⟨h0,h1,h2⟩:=nN hok;have hG:=gY h0;have HR:Hid (oM B xs= .tuple #[iN qi (fZ B (trk xs) xs.length),iN qi 0]):=lH (by unfold oM;rw[if_pos hok]);have H56:Hid (∀u,bX w.heap.size w u->cF tP 56 #[V.val B,sL xa xs.length xc] u _):=lH fun u hu=>r56 V B hG xs xa xc u (hs.below hu (nR _)) (hx.below hu (nR _)) h1 (fun k=>by have:=lZ h2 k;omega);rw[HR.out];rw[hok] at HC;generalize fZ B (trk xs) xs.length=F at *;obtain⟨ta,la,pa,tc,lc,pc⟩:=V;simp only[BkV.val] at *;clear hs hx hok h0 h1 h2 hG HR;go_enter Tryz.func13,Tryz.ntmps13
  go_wp2_with fail
  refine HC.out.mono ?_;rintro e w1 ⟨rfl,hb1⟩;have HB1:=lH (HB0.out.trans (hb1.mono (by simp)));obtain⟨p0,p1,p2,p3⟩:=amL (V:=⟨ta,la,pa,tc,lc,pc⟩) (u:=w1) (by simpa using hb1);clear hb1 HC HB0
  go_wp2_with fail
  refine(H56.out w1 HB1.out).mono ?_;rintro e w2 ⟨rfl,hb2⟩;have HB2:=lH (HB1.out.trans (hb2.mono HB1.out.size));clear hb2 p0 p1 p2 p3;go_wp2
  go_ret2
  exact⟨rfl,HB2.out⟩
 ·have HR:Hid (oM B xs= .tuple #[iN qi 0,iN qi (aH B xs true)]):=lH (by unfold oM;rw[if_neg hok]);rw[HR.out];generalize aH B xs true=A at *;obtain⟨ta,la,pa,tc,lc,pc⟩:=V;simp only[BkV.val] at *;clear hs hx HR;go_enter Tryz.func13,Tryz.ntmps13
  go_wp2_with fail
  refine HC.out.mono ?_;rintro e w1 ⟨rfl,hb1⟩;have HB1:=lH (HB0.out.trans (hb1.mono (by simp)));clear hb1 HC HB0;go_wp2
  go_ret2
  exact⟨rfl,HB1.out⟩
theorem aij {w:wD} {n:Nat} {a b c d:vL} (c0:w.cell? ⟨n,0,none⟩=some a) (c1:w.cell? ⟨n,1,none⟩=some b) (c2:w.cell? ⟨n,2,none⟩=some c) (c3:w.cell? ⟨n,3,none⟩=some d)
  (f0:w.frozen? ⟨n,0,none⟩=false) (f1:w.frozen? ⟨n,1,none⟩=false) (f2:w.frozen? ⟨n,2,none⟩=false) (f3:w.frozen? ⟨n,3,none⟩=false):dW w n a b c d:=⟨World.block_lt_of_cell? w _ c0,c0,c1,c2,c3,f0,f1,f2,f3⟩
theorem aiK {w:wD} {b:Nat} {a0 a1 a2 a3:vL} (h:dW w b a0 a1 a2 a3) (x0 x1 x2 x3:vL):dW ((((w.setCell ⟨b,0,none⟩ x0).setCell ⟨b,1,none⟩ x1).setCell ⟨b,2,none⟩ x2).setCell ⟨b,3,none⟩ x3) b x0 x1 x2 x3:=by
 obtain⟨hz,c0,c1,c2,c3,f0,f1,f2,f3⟩:=h;refine aij ?_ ?_ ?_ ?_ ?_ ?_ ?_ ?_<;>go_simp
theorem ahT (w:wD) (t:TypeId) (a0 a1 a2 a3:vL):dW (w.alloc (cL #[a0,a1,a2,a3] t)) w.heap.size a0 a1 a2 a3:=⟨by simp,by go_simp,by go_simp,by go_simp,by go_simp,by go_simp,by go_simp,by go_simp,by go_simp⟩
theorem aik {n m b:Nat} {w w':wD} (h:bX n w w') (hb:n<=b) (hm:m=n) (x0 x1 x2 x3:vL):bX m w ((((w'.setCell ⟨b,0,none⟩ x0).setCell ⟨b,1,none⟩ x1).setCell ⟨b,2,none⟩ x2).setCell ⟨b,3,none⟩ x3):=by
 subst hm;exact(((h.setCell (p:=⟨b,0,none⟩) hb _).setCell (p:=⟨b,1,none⟩) hb _).setCell (p:=⟨b,2,none⟩) hb _).setCell (p:=⟨b,3,none⟩) hb _
abbrev ahS:=Int×Int×List (Int×Int)
def pr3 (p:Pr):ahS:=(p.one,p.two,p.calls)
structure RwV (w:wD) (l:List ahS) (vs:List (Int×Int×vL)):Prop where
 len:vs.length=l.length
 get: ∀(i:Nat) (x:ahS),l[i]? =some x-> ∃sa sc,vs[i]? =some (x.1,x.2.1,sL sa x.2.2.length sc)/\SlB w sa x.2.2/\x.2.2.length<=1000000
section
variable {w w':wD} {l l':List ahS} {vs vs':List (Int×Int×vL)}
theorem RwV.nil:RwV w [] []:=⟨rfl,fun i x h=>by cases h⟩
theorem RwV.below (h:RwV w l vs) {n:Nat} (hb:bX n w w') (hn:w.heap.size<=n):RwV w' l vs:=⟨h.len,fun i x hx=>by
 obtain⟨sa,sc,h1,h2,h3⟩:=h.get i x hx;exact⟨sa,sc,h1,h2.below hb hn,h3⟩⟩
theorem RwV.append (h:RwV w l vs) (h':RwV w l' vs'):RwV w (l++l') (vs++vs'):=⟨by rw[List.length_append,List.length_append,h.len,h'.len],fun i x hx=>by
 by_cases c:i<l.length
 ·rw[List.getElem?_append_left c] at hx;obtain⟨sa,sc,h1,h2,h3⟩:=h.get i x hx;exact⟨sa,sc,by rw[List.getElem?_append_left (by rw[h.len];exact c)];exact h1,h2,h3⟩
 ·rw[List.getElem?_append_right (by omega)] at hx;obtain⟨sa,sc,h1,h2,h3⟩:=h'.get _ x hx;exact⟨sa,sc,by rw[List.getElem?_append_right (by rw[h.len];omega),h.len];exact h1,h2,h3⟩⟩
theorem RwV.take (h:RwV w l vs) (k:Nat):RwV w (l.take k) (vs.take k):=⟨by rw[List.length_take,List.length_take,h.len],fun i x hx=>by
 rw[List.getElem?_take] at hx
 split at hx
 ·rename_i c;obtain⟨sa,sc,h1,h2,h3⟩:=h.get i x hx;exact⟨sa,sc,by rw[List.getElem?_take,if_pos c];exact h1,h2,h3⟩
 ·cases hx⟩
theorem RwV.drop (h:RwV w l vs) (k:Nat):RwV w (l.drop k) (vs.drop k):=⟨by rw[List.length_drop,List.length_drop,h.len],fun i x hx=>by
 rw[List.getElem?_drop] at hx;obtain⟨sa,sc,h1,h2,h3⟩:=h.get _ x hx;exact⟨sa,sc,by rw[List.getElem?_drop];exact h1,h2,h3⟩⟩
theorem RwV.one (h:RwV w l vs): ∀u∈tri vs,u.oneCell'=true:=EY _ fun x hx=>by
 obtain⟨i,hi,rfl⟩:=List.getElem_of_mem hx;obtain⟨sa,sc,h1,_,_⟩:=h.get i _ (lG (by rw[<-h.len];exact hi));rw[lG hi] at h1;rw[Option.some.inj h1];rfl
theorem ah2: ∀(a b:List (Int×Int×vL)),tri (a++b)=tri a++tri b
 | [],_=>rfl
 |x::a,b=>by simp[tri,ah2 a b]
theorem aiL (k:Nat): ∀(a:List (Int×Int×vL)),k<=a.length-> ∀j,(tri (a.drop k))[j]? =(tri a)[k*3+j]? :=by
 intro a hk j;have:tri a=tri (a.take k)++tri (a.drop k):=by rw[<-ah2,List.take_append_drop]
 rw[this,List.getElem?_append_right (by rw[ES,List.length_take];omega),ES,List.length_take]
 congr 1
 omega
theorem aiM (k:Nat) (a:List (Int×Int×vL)) {j:Nat} {u:vL} (h:(tri (a.take k))[j]? =some u):(tri a)[j]? =some u:=by
 have:tri a=tri (a.take k)++tri (a.drop k):=by rw[<-ah2,List.take_append_drop]
 rw[this,List.getElem?_append_left (lS.1 h).1];exact h
end
def ahP (w:wD) (b o:Nat) (vs:List (Int×Int×vL)):Prop:= ∀(j:Nat) (u:vL),(tri vs)[j]? =some u->w.cell? ((⟨b,o,none⟩:Addr).add j)=some u
theorem ahP.below {w w':wD} {b o n:Nat} {vs:List (Int×Int×vL)} (h:ahP w b o vs) (hb:bX n w w') (hn:w.heap.size<=n):ahP w' b o vs:=fun j u hu=>by
 have:=h j u hu;rw[BH] at this ⊢;exact aoF hb this hn
theorem ahP.take {w:wD} {b o:Nat} {vs:List (Int×Int×vL)} (h:ahP w b o vs) (k:Nat):ahP w b o (vs.take k):=fun j u hu=>h j u (aiM k vs hu)
theorem ahP.drop {w:wD} {b o:Nat} {vs:List (Int×Int×vL)} (h:ahP w b o vs) {k:Nat} (hk:k<=vs.length):ahP w b (o+k*3) (vs.drop k):=fun j u hu=>by
 rw[aiL k vs hk] at hu;have:=h _ u hu;rw[BH] at this ⊢;rwa [Nat.add_assoc]
theorem aiN {w:wD} {b o:Nat} {l:List ahS} (h: ∀(i:Nat) (x:ahS),l[i]? =some x-> ∃sa sc,w.cell? ⟨b,o+i*3,none⟩=some (iN qi x.1)/\w.cell? ⟨b,o+i*3+1,none⟩=some (iN qi x.2.1)/\w.cell? ⟨b,o+i*3+2,none⟩=some (sL sa x.2.2.length sc)/\SlB w sa x.2.2/\x.2.2.length<=1000000):
  ∃vs,RwV w l vs/\ahP w b o vs:=by
 have hv: ∀i,i<l.length->((List.range l.length).map fun i=>((((l[i]?).map (·.1)).getD 0,((l[i]?).map (·.2.1)).getD 0,(w.cell? ⟨b,o+i*3+2,none⟩).getD ud):Int×Int×vL))[i]? =some (((l[i]?).map (·.1)).getD 0,((l[i]?).map (·.2.1)).getD 0,(w.cell? ⟨b,o+i*3+2,none⟩).getD ud):=fun i hi=>by
  rw[List.getElem?_map,List.getElem?_range hi];rfl
 refine⟨(List.range l.length).map fun i=>(((l[i]?).map (·.1)).getD 0,((l[i]?).map (·.2.1)).getD 0,(w.cell? ⟨b,o+i*3+2,none⟩).getD ud),⟨by simp,fun i x hx=> ?_⟩,fun j u hu=> ?_⟩
 ·obtain⟨sa,sc,_,_,h3,h4,h5⟩:=h i x hx;refine⟨sa,sc, ?_,h4,h5⟩;rw[hv i (lS.1 hx).1,hx,h3];rfl
 ·obtain⟨i,y,hy,hh⟩:=EU _ j u hu;have hi:i<l.length:=by have:=(lS.1 hy).1;simpa using this
  rw[hv i hi] at hy
  cases hy
  obtain⟨sa,sc,h1,h2,h3,_⟩:=h i _ (lG hi);rw[lG hi] at hh;simp only[Option.map_some,Option.getD_some,h3] at hh;rw[BH]
  rcases hh with ⟨rfl,rfl⟩ |⟨rfl,rfl⟩ |⟨rfl,rfl⟩
  ·exact h1
  ·rw[<-Nat.add_assoc];exact h2
  ·rw[<-Nat.add_assoc];exact h3
theorem ajN {w:wD} {b o:Nat} {ls:List Pr} (h:jv w (some ⟨b,o,none⟩) ls): ∃vs,RwV w (ls.map pr3) vs/\ahP w b o vs:=aiN fun i x hx=>by
 rw[List.getElem?_map,Option.map_eq_some_iff] at hx;obtain⟨L,hL,rfl⟩:=hx;obtain⟨b2,o2,sa,sc,e,h1,h2,h3,h4,h5⟩:=h i L hL
 cases e
 exact⟨sa,sc,h1,h2,h3,h4,h5⟩
theorem aiO {w:wD} {b o i:Nat} {l:List ahS} {vs:List (Int×Int×vL)} {x:ahS} (hr:RwV w l vs) (ht:ahP w b o vs) (hx:l[i]? =some x): ∃sa sc,w.cell? ⟨b,o+i*3,none⟩=some (iN qi x.1)/\w.cell? ⟨b,o+i*3+1,none⟩=some (iN qi x.2.1)/\w.cell? ⟨b,o+i*3+2,none⟩=some (sL sa x.2.2.length sc)/\SlB w sa x.2.2/\x.2.2.length<=1000000:=by
 obtain⟨sa,sc,h1,h2,h3⟩:=hr.get i x hx;obtain⟨g0,g1,g2⟩:=ET vs i _ h1;have k0:=ht _ _ g0;have k1:=ht _ _ g1;have k2:=ht _ _ g2;rw[BH] at k0 k1 k2;exact⟨sa,sc,k0,by rw[Nat.add_assoc];exact k1,by rw[Nat.add_assoc];exact k2,h2,h3⟩
theorem aio {w:wD} {g:Nat} {vs:List (Int×Int×vL)} (h: ∀(j:Nat) (u:vL),(tri vs)[j]? =some u->w.cell? ⟨g,j,none⟩=some u):ahP w g 0 vs:=fun j u hu=>by
 rw[BH,Nat.zero_add];exact h j u hu
theorem aip (w:wD) (n:Nat) (e:TypeId) (s:Nat) (hn:n<=w.heap.size):(w.alloc (cL #[] e)).ownsRow n e s (sL (some ⟨w.heap.size,0,none⟩) 0 0) 0 []:=
 ⟨by simp,.inr ⟨w.heap.size,0,#[],rfl,hn,(MapKept.heap_alloc w _).1,nR _,Nat.zero_le _,by simp,by simp⟩⟩
theorem r45 (V:BkV) (B:Bk) (k:Int) (w:wD) (hs:aB w V B) (hz: ∀t∈B.towns,t.size<=1000000):cF tP 45 #[V.val B,iN qi k] w fun e w'=>e= rT (iN qi (fF B (btw k 0 ((B.pairs.length:Int)-1))))/\bX w.heap.size w w':=by
 have hb0:bX w.heap.size w (w.alloc (cL #[iN qi B.hours,sL V.ta B.towns.length V.tc,sL V.la B.links.length V.lc,sL V.pa B.pairs.length V.pc] 26)):=(bR _ _).alloc (nR _) _;have HCk:=lH (c20 V B _ (hs.below hb0 (nR _)) hz);have HB0:=lH hb0;clear hb0 hz;by_cases hA:B.alarm=0
 ·have hnp:=hs.np;have hw:IntKind.wrap qi ((B.pairs.length:Int)-1)=(B.pairs.length:Int)-1:=IntWalk.i64_in _ (by omega);have HR:Hid (fF B (btw k 0 ((B.pairs.length:Int)-1))=if btw k 0 ((B.pairs.length:Int)-1)=true then 0 else 6):=lH (by unfold fF;rw[if_pos hA]);rw[HR.out];rw[hA] at HCk;obtain⟨ta,la,pa,tc,lc,pc⟩:=V;simp only[BkV.val] at *;obtain⟨q,hq⟩: ∃q,q=(B.pairs.length:Int)-1:=⟨_,rfl⟩;have hw2:=hw.trans hq.symm;rw[<-hq];clear hs hA HR hw hq hnp
  cases hbt:btw k 0 q with
  |false=>
   go_enter Tryz.func45,Tryz.ntmps45
   go_wp2_with fail
   refine HCk.out.mono ?_;rintro e W ⟨rfl,hb1⟩;have HBW:=lH (HB0.out.trans (hb1.mono (by simp)));obtain⟨p0,p1,p2,p3⟩:=amL (V:=⟨ta,la,pa,tc,lc,pc⟩) (u:=W) (by simpa using hb1);clear hb1 HCk HB0
   go_wp2_with fail
   refine(gU _ _ _ _).mono ?_;rintro e w2 ⟨rfl,rfl⟩;rw[hbt];go_wp2;go_ret;exact⟨rfl,HBW.out⟩
  |true=>
   go_enter Tryz.func45,Tryz.ntmps45
   go_wp2_with fail
   refine HCk.out.mono ?_;rintro e W ⟨rfl,hb1⟩;have HBW:=lH (HB0.out.trans (hb1.mono (by simp)));obtain⟨p0,p1,p2,p3⟩:=amL (V:=⟨ta,la,pa,tc,lc,pc⟩) (u:=W) (by simpa using hb1);clear hb1 HCk HB0
   go_wp2_with fail
   refine(gU _ _ _ _).mono ?_;rintro e w2 ⟨rfl,rfl⟩;rw[hbt];go_wp2;go_ret;exact⟨rfl,HBW.out⟩
 ·have HR:Hid (fF B (btw k 0 ((B.pairs.length:Int)-1))=B.alarm):=lH (by unfold fF;rw[if_neg hA]);rw[HR.out];generalize B.alarm=al at *;clear HR;obtain⟨ta,la,pa,tc,lc,pc⟩:=V;simp only[BkV.val] at *;clear hs;go_enter Tryz.func45,Tryz.ntmps45
  go_wp2_with fail
  refine HCk.out.mono ?_;rintro e w1 ⟨rfl,hb1⟩;have HB1:=lH (HB0.out.trans (hb1.mono (by simp)));clear hb1 HCk HB0;go_wp2;go_ret;exact⟨rfl,HB1.out⟩
theorem r48 (V:BkV) (B:Bk) (hG:Good B) (w:wD) (hs:aB w V B):cF tP 48 #[V.val B] w fun e w'=>e= rT (iN qi (aC B aT).2)/\bX w.heap.size w w':=by
 have hb0:bX w.heap.size w (w.alloc (cL #[iN qi B.hours,sL V.ta B.towns.length V.tc,sL V.la B.links.length V.lc,sL V.pa B.pairs.length V.pc] 26)):=(bR _ _).alloc (nR _) _;have H59m:Hid (∀u,cF tP 59 #[V.val B,iN qi (-1)] u _):=lH (fun u=>am2 V B hG.fine (-1) u);have H58m:Hid (∀a c u,bX w.heap.size w u->SlI u a (amE B (-1) (B.links.length-B.spokes))->cF tP 58 #[V.val B,sL a (B.links.length-B.spokes) c] u _):=lH (fun a c u hu hm=>am3 V B hG (-1) hs a c u hu hm);rw[ang] at H58m;generalize aC B aT=R at *;have HB0:=lH hb0;obtain⟨ta,la,pa,tc,lc,pc⟩:=V;simp only[BkV.val] at *;clear hs hG hb0;go_enter Tryz.func48,Tryz.ntmps48
 go_wp2_with fail
 generalize hWd:w.alloc (cL #[iN qi B.hours,sL ta B.towns.length tc,sL la B.links.length lc,sL pa B.pairs.length pc] 26)=W;have HBW:Hid (bX w.heap.size w W):=lH (by subst hWd;exact HB0.out);have HW:Hid (W.cell? ⟨w.heap.size,0,none⟩=some (iN qi B.hours)/\W.cell? ⟨w.heap.size,1,none⟩=some (sL ta B.towns.length tc)/\W.cell? ⟨w.heap.size,2,none⟩=some (sL la B.links.length lc)/\W.cell? ⟨w.heap.size,3,none⟩=some (sL pa B.pairs.length pc)):=lH (by subst hWd;exact⟨by go_simp,by go_simp,by go_simp,by go_simp⟩);clear hWd HB0;have hW1:bX W.heap.size W W.drew:=(bR _ _).drew;have HC: ∀u,bX W.heap.size W u->u.cell? ⟨w.heap.size,0,none⟩=some (iN qi B.hours)/\u.cell? ⟨w.heap.size,1,none⟩=some (sL ta B.towns.length tc)/\u.cell? ⟨w.heap.size,2,none⟩=some (sL la B.links.length lc)/\u.cell? ⟨w.heap.size,3,none⟩=some (sL pa B.pairs.length pc):=fun u hu=>⟨aoF hu HW.out.1 (nR _),aoF hu HW.out.2.1 (nR _),aoF hu HW.out.2.2.1 (nR _),aoF hu HW.out.2.2.2 (nR _)⟩;refine aif 9 9 (fun u=>bX W.heap.size W u) (by kernel_rfl) ?_;refine ahN 0 (.agg #[iN qi B.hours,sL ta B.towns.length tc,sL la B.links.length lc,sL pa B.pairs.length pc]) hW1 ?_ (hr:=fun u hu=>by obtain⟨c0x,c1x,c2x,c3x⟩:=HC u hu;go_simp);refine ahN 1 (.agg #[iN qi B.hours,sL ta B.towns.length tc,sL la B.links.length lc,sL pa B.pairs.length pc]) hW1 ?_ (hr:=fun u hu=>by obtain⟨c0x,c1x,c2x,c3x⟩:=HC u hu;go_simp);refine ahQ 2 (h:= ?_);refine ahW (f:=59) (args:= #[.agg #[iN qi B.hours,sL ta B.towns.length tc,sL la B.links.length lc,sL pa B.pairs.length pc],iN qi (-1)]) (w':=W.drew) (by go_simp) ((H59m.out W.drew).mono ?_);rintro e u1 ⟨a1,c1,rfl,hm1,hb1⟩;have hs1:=hW1.trans (hb1.mono hW1.size);refine⟨_,rfl,fun _=>hs1, ?_⟩;refine ahQ 3 (h:= ?_);refine ahW (f:=58) (args:= #[.agg #[iN qi B.hours,sL ta B.towns.length tc,sL la B.links.length lc,sL pa B.pairs.length pc],sL a1 (B.links.length-B.spokes) c1]) (w':=u1) (by go_simp) ((H58m.out a1 c1 u1 (HBW.out.trans (hs1.mono HBW.out.size)) hm1).mono ?_);rintro e u2 ⟨b1,bc1,rfl,hb1,hbl1,hb2⟩;have hs2:=hs1.trans (hb2.mono hs1.size);refine⟨_,rfl,fun _=>hs2, ?_⟩;refine ahN 4 (.tuple #[sL b1 B.links.length bc1,iN qi R.2]) hs2 ?_ (hr:=fun u hu=>by go_simp);refine ahN 5 (sL b1 B.links.length bc1) hs2 ?_ (hr:=fun u hu=>by go_simp);refine ahN 6 (iN qi R.2) hs2 ?_ (hr:=fun u hu=>by go_simp);refine ahN 7 (sL b1 B.links.length bc1) hs2 ?_ (hr:=fun u hu=>by go_simp);refine ahN 8 (iN qi R.2) hs2 ?_ (hr:=fun u hu=>by go_simp);refine ahZ ?_;go_simp;have HS3:=lH (HBW.out.trans (hs2.mono HBW.out.size));clear hs1 hs2 hb1 hb2 HC hW1 hbl1 hm1;go_wp2;go_ret;exact⟨rfl,HS3.out⟩
theorem r47 (x1 x2 n:Int) (h1: -1000<=x1/\x1<=1000) (h2: -1000<=x2/\x2<=1000) (hn: -1000<=n/\n<=1000) (w:wD):cF tP 47 #[.agg #[iN qi x1,iN qi x2],iN qi n] w fun e w'=>e= rT (.agg #[iN qi (x1+n),iN qi (x2+n)])/\bX w.heap.size w w':=by
 have hw1:IntKind.wrap qi (x1+n)=x1+n:=IntWalk.i64_in _ (by omega);have hw2:IntKind.wrap qi (x2+n)=x2+n:=IntWalk.i64_in _ (by omega);go_enter Tryz.func47,Tryz.ntmps47;go_wp2;exact bodyPost_ret (v:= .agg #[iN qi (x1+n),iN qi (x2+n)]) (by simp[results,Tryz.results47,go_sem]) rfl ⟨rfl,((bR _ _).alloc (nR _) _).alloc (by simp) _⟩
end Go.Proofs.YtaikibfkggglgaaGreatDoor
namespace Go.Proofs.YtaikibfkggglgaaGreatDoor
open Go.RowKit Go.Tp
section
variable {P:Program} {ops:Array Oper} {Q:Exit->Act->wD->Prop} {z:Nat} {S:wD->Prop}
theorem aoh {i:Nat} {oi:Oper} (hi:ops[i]? =some oi) (hsel: ∀(j:Nat) (o:Oper) cs b,ops[j]? =some o->o.op≠ .select cs b):
    ∀(n:Nat) (listed:Array Bool) (a:Act) (w:wD),Shut ops listed->
      (∀j oj,ops[j]? =some oj->j≠i->listed.getD j true=false->(∀e∈oj.after,Region.binds .any e=true->e.on≠i)->oi.apart ops oj=true)->
      i∈Region.ready .any ops listed->Region.wanted oi (yielded ops a.tmps)=false->LaS P ops Q z S n (listed.setIfInBounds i true) (a.put oi.dst ud) w->LaS P ops Q z S (n+1) listed a w:=by
  intro n
  induction n with
  |zero=>
    intro listed a w _ _ hr hw H;refine⟨fun h=>(by rw[h] at hr;cases hr),fun j hj=> ?_⟩;by_cases hji:j=i
    · subst hji
      exact⟨oi,hi,.inl ⟨hw,H⟩⟩
    · have h1:=ready_mono hj hji
      rw[H.1] at h1
      cases h1
  |succ n ih=>
    intro listed a w hsh hfree hr hw H;refine⟨fun h=>(by rw[h] at hr;cases hr),fun j hj=> ?_⟩;by_cases hji:j=i
    · subst hji
      exact⟨oi,hi,.inl ⟨hw,H⟩⟩
    · obtain⟨oj',hoj',H2⟩:=H.2 j (ready_mono hj hji)
      obtain⟨hjun,oj,hoj,hall⟩:=mem_ready.1 hj;have e1:oj'=oj:=Option.some.inj (hoj'.symm.trans hoj);rw[e1] at H2;have hun: ∀k,k=i->listed.getD k false=false:=fun k hk=>by
        subst hk;have h0:=(mem_ready.1 hr).1
        rcases Nat.lt_or_ge k listed.size with h' |h'
        · simp[h'] at h0 ⊢; exact h0
        · simp[Array.getElem?_eq_none h']
      have hnot: ∀e∈oj.after,Region.binds .any e=true->e.on≠i:=fun e he hb heq=>by
        have h1:=hall e he hb;rw[hun _ heq] at h1
        cases h1
      obtain⟨h1,h2,h3⟩:=Oper.apart_spec (hfree j oj hoj hji hjun hnot);have hwj:Region.wanted oj (yielded ops (a.put oi.dst ud).tmps)=Region.wanted oj (yielded ops a.tmps):=wanted_put oj a oi.dst ud h1;have hej:execOp (a.put oi.dst ud).eval oj=execOp a.eval oj:=execOp_put oj (fun cs b=>hsel j oj cs b hoj) a oi.dst ud h1;have hfree': ∀k ok,ops[k]? =some ok->k≠i->(listed.setIfInBounds j true).getD k true=false->
          (∀e∈ok.after,Region.binds .any e=true->e.on≠i)->oi.apart ops ok=true:=fun k ok hk hki hun' hno=>by
        refine hfree k ok hk hki ?_ hno;by_cases hjk:j=k
        · subst hjk;exact hjun
        · rw[getD_set_ne true hjk] at hun';exact hun'
      have key: ∀(vj:vL) (w':wD),LaS P ops Q z S n ((listed.setIfInBounds i true).setIfInBounds j true) ((a.put oi.dst ud).put oj.dst vj) w'->LaS P ops Q z S (n+1) (listed.setIfInBounds j true) (a.put oj.dst vj) w':=fun vj w' k=>by
        refine ih (listed.setIfInBounds j true) (a.put oj.dst vj) w' (ajn hsh fun o ho e he hb=>by rw[hoj] at ho;cases ho;exact hall e he hb) hfree' (ready_mono hr (Ne.symm hji)) ?_ ?_
        · rw[wanted_put oi a oj.dst vj h3];exact hw
        · rw[Array.setIfInBounds_comm _ _ hji,<-Act.put_comm a ud vj h2]
          exact k
      refine⟨oj,hoj, ?_⟩
      rcases H2 with ⟨hw2,k⟩ |⟨hw2,k⟩
      · exact .inl ⟨hwj.symm.trans hw2,key _ _ k⟩
      · refine .inr ⟨hwj.symm.trans hw2, ?_⟩
        unfold ahO at k ⊢;rw[hej] at k;exact ahO.mono (o:=oj) (a:=a) (w:=w) k fun vj w' hk=>⟨hk.1,key vj w' hk.2⟩
theorem an9 (i:Nat) {o:Oper} {n:Nat} {listed:Array Bool} {a:Act} {w:wD} (h:LaS P ops Q z S n (listed.setIfInBounds i true) (a.put o.dst ud) w) (ho:ops[i]? =some o:=by rfl) (hw:Region.wanted o (yielded ops a.tmps)=false:=by rfl)
  (hs:Region.noSelect ops=true:=by kernel_rfl) (hf:Region.free .any ops listed i=true:=by kernel_rfl) (hc:(Region.ready .any ops listed).contains i=true:=by kernel_rfl) (hsh:alz ops listed=true:=by kernel_rfl):LaS P ops Q z S (n+1) listed a w:=
 aoh ho (Region.noSelect_spec hs) n listed a w (ajm hsh) (Region.free_spec ho hf) (by simpa using hc) hw h
end
end Go.Proofs.YtaikibfkggglgaaGreatDoor
namespace Go.Proofs.YtaikibfkggglgaaGreatDoor
open Go.RowKit Go.Rent Go.Tp Go.Conc
theorem aoi {Q:Exit->Act->wD->Prop} (v0:vL) (b:Nat) (n m:Int) (h':Int) (ta' la' pa':Option Addr) (tc' lc' pc' n1 n2 n3:Nat) (al:Int) (W:wD) (h:Int) (ta la pa:Option Addr) (nt nl np tc lc pc:Nat)
  (k0:W.cell? ⟨b,0,none⟩=some (iN qi h)) (k1:W.cell? ⟨b,1,none⟩=some (sL ta nt tc)) (k2:W.cell? ⟨b,2,none⟩=some (sL la nl lc)) (k3:W.cell? ⟨b,3,none⟩=some (sL pa np pc))
  (H69: ∀u,bX W.heap.size W u->cF tP 40 #[.agg #[iN qi h,sL ta nt tc,sL la nl lc,sL pa np pc],iN qi n] u fun e u'=>e= rT (.bool false)/\bX u.heap.size u u')
  (H78: ∀u,bX W.heap.size W u->cF tP 39 #[.agg #[iN qi h,sL ta nt tc,sL la nl lc,sL pa np pc],.bool false] u fun e u'=>e= rT (.tuple #[.agg #[iN qi h',sL ta' n1 tc',sL la' n2 lc',sL pa' n3 pc'],iN qi al])/\bX u.heap.size u u')
  (K: ∀(b6:Nat) (w':wD),W.heap.size<=b6->bX W.heap.size W w'->dW w' b6 (iN qi h') (sL ta' n1 tc') (sL la' n2 lc') (sL pa' n3 pc')->Q .normal ⟨#[v0,iN qi n,iN qi m,pN (some ⟨b,0,none⟩),ud,ud,iN qi 0,iN qi 0,pN (some ⟨b6,0,none⟩),iN qi al,ud,ud,.tuple #[.agg #[iN qi h',sL ta' n1 tc',sL la' n2 lc',sL pa' n3 pc'],iN qi al],.agg #[iN qi h,sL ta nt tc,sL la nl lc,sL pa np pc],.agg #[iN qi h,sL ta nt tc,sL la nl lc,sL pa np pc],iN qi n,.bool false,.bool false,ud,ud,ud,.bool false,.tuple #[.agg #[iN qi h',sL ta' n1 tc',sL la' n2 lc',sL pa' n3 pc'],iN qi al],.agg #[iN qi h',sL ta' n1 tc',sL la' n2 lc',sL pa' n3 pc'],iN qi al,ud,ud,ud,ud,ud,ud,ud,ud,ud,ud,ud,ud,ud,ud,ud,ud,ud,ud,ud,ud,ud,ud,ud,ud],[]⟩ w'):
  NC.wp tP Q ⟨#[v0,iN qi n,iN qi m,pN (some ⟨b,0,none⟩),ud,ud,iN qi 0,iN qi 0,ud,ud,ud,ud,ud,ud,ud,ud,ud,ud,ud,ud,ud,ud,ud,ud,ud,ud,ud,ud,ud,ud,ud,ud,ud,ud,ud,ud,ud,ud,ud,ud,ud,ud,ud,ud,ud,ud,ud,ud,ud],[]⟩ W:=by
 simp only[NC,Tryz.f8];have hW:bX W.heap.size W W.drew:=(bR _ _).drew;have HC: ∀u,bX W.heap.size W u->u.cell? ⟨b,0,none⟩=some (iN qi h)/\u.cell? ⟨b,1,none⟩=some (sL ta nt tc)/\u.cell? ⟨b,2,none⟩=some (sL la nl lc)/\u.cell? ⟨b,3,none⟩=some (sL pa np pc):=fun u hu=>⟨aoF hu k0 (nR _),aoF hu k1 (nR _),aoF hu k2 (nR _),aoF hu k3 (nR _)⟩;refine aif 16 16 (fun u=>bX W.heap.size W u) (by kernel_rfl) ?_;refine ahN 0 (.agg #[iN qi h,sL ta nt tc,sL la nl lc,sL pa np pc]) hW ?_ (hr:=fun u hu=>by obtain⟨c0,c1,c2,c3⟩:=HC u hu;go_simp);refine ahN 1 (.agg #[iN qi h,sL ta nt tc,sL la nl lc,sL pa np pc]) hW ?_ (hr:=fun u hu=>by obtain⟨c0,c1,c2,c3⟩:=HC u hu;go_simp);refine ahN 2 (iN qi n) hW ?_ (hr:=fun u hu=>by go_simp);have hz:=hW.size;have fin: ∀(b6:Nat) (u:wD),W.heap.size<=b6->bX W.heap.size W u->(∃c0 c1 c2 c3,dW u b6 c0 c1 c2 c3)->dW ((((u.setCell ⟨b6,0,none⟩ (iN qi h')).setCell ⟨b6,1,none⟩ (sL ta' n1 tc')).setCell ⟨b6,2,none⟩ (sL la' n2 lc')).setCell ⟨b6,3,none⟩ (sL pa' n3 pc')) b6 (iN qi h') (sL ta' n1 tc') (sL la' n2 lc') (sL pa' n3 pc')/\bX W.heap.size W ((((u.setCell ⟨b6,0,none⟩ (iN qi h')).setCell ⟨b6,1,none⟩ (sL ta' n1 tc')).setCell ⟨b6,2,none⟩ (sL la' n2 lc')).setCell ⟨b6,3,none⟩ (sL pa' n3 pc')):=fun b6 u h1 h2 ⟨_,_,_,_,h3⟩=>⟨aiK h3 _ _ _ _,aik h2 h1 rfl _ _ _ _⟩;refine aie 3 13 ?_ ?_
 ·refine ahW (f:=40) (args:= #[.agg #[iN qi h,sL ta nt tc,sL la nl lc,sL pa np pc],iN qi n]) (w':=W.drew) (by go_simp) ((H69 _ hW).mono ?_);rintro e u ⟨rfl,hb⟩;have hu:bX W.heap.size W u:=hW.trans (hb.mono hz);refine⟨_,rfl,fun _=>hu, ?_⟩;simp only[Act.put,List.setIfInBounds_toArray,List.set,List.getElem_toArray,List.getElem_cons_zero,List.getElem_cons_succ];refine ahN 4 (.bool false) hu ?_ (hr:=fun u hu=>by go_simp);refine an9 5 ?_;refine an9 6 ?_;refine an9 7 ?_;refine ahN 8 (.bool false) hu ?_ (hr:=fun u hu=>by go_simp);refine aie 9 13 ?_ ?_
  ·refine ahW (f:=39) (args:= #[.agg #[iN qi h,sL ta nt tc,sL la nl lc,sL pa np pc],.bool false]) (w':=u) (by go_simp) ((H78 _ hu).mono ?_);rintro e u1 ⟨rfl,hb1⟩;have hu1:bX W.heap.size W u1:=hu.trans (hb1.mono hu.size);refine⟨_,rfl,fun _=>hu1, ?_⟩;refine ahN 10 (.tuple #[.agg #[iN qi h',sL ta' n1 tc',sL la' n2 lc',sL pa' n3 pc'],iN qi al]) hu1 ?_ (hr:=fun u hu=>by go_simp);refine ahN 11 (.agg #[iN qi h',sL ta' n1 tc',sL la' n2 lc',sL pa' n3 pc']) hu1 ?_ (hr:=fun u hu=>by go_simp);refine ahN 12 (iN qi al) hu1 ?_ (hr:=fun u hu=>by go_simp);refine ahQ 13 (h:=ah0 (v:= pN (some ⟨u1.heap.size,0,none⟩)) (w':=u1.alloc (cL #[iN qi 0,sL none 0 0,sL none 0 0,sL none 0 0] 73)) (by go_simp) ⟨fun _=>hu1.alloc hu1.size _, ?_⟩);have hr:=ahT u1 73 (iN qi 0) (sL none 0 0) (sL none 0 0) (sL none 0 0);have hua:=hu1.alloc hu1.size (cL #[iN qi 0,sL none 0 0,sL none 0 0,sL none 0 0] 73);have hus:=hu1.size;generalize u1.alloc (cL #[iN qi 0,sL none 0 0,sL none 0 0,sL none 0 0] 73)=ua at *;generalize u1.heap.size=b6 at *;obtain⟨g1,g2⟩:=fin b6 ua hus hua ⟨_,_,_,_,hr⟩;refine ahQ 14 (h:=ah1 (w':=((((ua.setCell ⟨b6,0,none⟩ (iN qi h')).setCell ⟨b6,1,none⟩ (sL ta' n1 tc')).setCell ⟨b6,2,none⟩ (sL la' n2 lc')).setCell ⟨b6,3,none⟩ (sL pa' n3 pc'))) ?_ ⟨fun _=>g2, ?_⟩)
   ·obtain⟨hz',c0,c1,c2,c3,f0,f1,f2,f3⟩:=hr;go_simp
   refine ahN 15 (iN qi al) g2 ?_ (hr:=fun u hu=>by go_simp);refine ahZ ?_;have hK:=K _ _ hus g2 g1;clear K;go_simp;exact hK
  ·refine ah0 (v:= pN (some ⟨u.heap.size,0,none⟩)) (w':=u.alloc (cL #[iN qi 0,sL none 0 0,sL none 0 0,sL none 0 0] 73)) (by go_simp) ⟨fun _=>hu.alloc hu.size _, ?_⟩;have hn:=ahT u 73 (iN qi 0) (sL none 0 0) (sL none 0 0) (sL none 0 0);have hua:=hu.alloc hu.size (cL #[iN qi 0,sL none 0 0,sL none 0 0,sL none 0 0] 73);have hus:=hu.size;generalize u.alloc (cL #[iN qi 0,sL none 0 0,sL none 0 0,sL none 0 0] 73)=ua at *;generalize u.heap.size=b6 at *;refine ahQ 9 (h:= ?_);refine ahW (f:=39) (args:= #[.agg #[iN qi h,sL ta nt tc,sL la nl lc,sL pa np pc],.bool false]) (w':=ua) (by go_simp) ((H78 _ hua).mono ?_);rintro e u1 ⟨rfl,hb1⟩;have hu1:bX W.heap.size W u1:=hua.trans (hb1.mono hua.size);refine⟨_,rfl,fun _=>hu1, ?_⟩;have hr:=hn.below hb1 hn.z;refine ahN 10 (.tuple #[.agg #[iN qi h',sL ta' n1 tc',sL la' n2 lc',sL pa' n3 pc'],iN qi al]) hu1 ?_ (hr:=fun u hu=>by go_simp);refine ahN 11 (.agg #[iN qi h',sL ta' n1 tc',sL la' n2 lc',sL pa' n3 pc']) hu1 ?_ (hr:=fun u hu=>by go_simp);refine ahN 12 (iN qi al) hu1 ?_ (hr:=fun u hu=>by go_simp);obtain⟨g1,g2⟩:=fin b6 u1 hus hu1 ⟨_,_,_,_,hr⟩;refine ahQ 14 (h:=ah1 (w':=((((u1.setCell ⟨b6,0,none⟩ (iN qi h')).setCell ⟨b6,1,none⟩ (sL ta' n1 tc')).setCell ⟨b6,2,none⟩ (sL la' n2 lc')).setCell ⟨b6,3,none⟩ (sL pa' n3 pc'))) ?_ ⟨fun _=>g2, ?_⟩)
   ·obtain⟨hz',c0,c1,c2,c3,f0,f1,f2,f3⟩:=hr;go_simp
   refine ahN 15 (iN qi al) g2 ?_ (hr:=fun u hu=>by go_simp);refine ahZ ?_;have hK:=K _ _ hus g2 g1;clear K;go_simp;exact hK
 ·refine ah0 (v:= pN (some ⟨W.drew.heap.size,0,none⟩)) (w':=W.drew.alloc (cL #[iN qi 0,sL none 0 0,sL none 0 0,sL none 0 0] 73)) (by go_simp) ⟨fun _=>hW.alloc hW.size _, ?_⟩;have hn:=ahT W.drew 73 (iN qi 0) (sL none 0 0) (sL none 0 0) (sL none 0 0);have hua:=hW.alloc hW.size (cL #[iN qi 0,sL none 0 0,sL none 0 0,sL none 0 0] 73);have hus:=hW.size;generalize W.drew.alloc (cL #[iN qi 0,sL none 0 0,sL none 0 0,sL none 0 0] 73)=ua at *;generalize W.drew.heap.size=b6 at *;refine ahQ 3 (h:= ?_);refine ahW (f:=40) (args:= #[.agg #[iN qi h,sL ta nt tc,sL la nl lc,sL pa np pc],iN qi n]) (w':=ua) (by go_simp) ((H69 _ hua).mono ?_);rintro e u ⟨rfl,hb⟩;have hu:bX W.heap.size W u:=hua.trans (hb.mono hua.size);refine⟨_,rfl,fun _=>hu, ?_⟩;simp only[Act.put,List.setIfInBounds_toArray,List.set,List.getElem_toArray,List.getElem_cons_zero,List.getElem_cons_succ];refine ahN 4 (.bool false) hu ?_ (hr:=fun u hu=>by go_simp);refine an9 5 ?_;refine an9 6 ?_;refine an9 7 ?_;refine ahN 8 (.bool false) hu ?_ (hr:=fun u hu=>by go_simp);have hr0:=hn.below hb hn.z;refine ahQ 9 (h:= ?_);refine ahW (f:=39) (args:= #[.agg #[iN qi h,sL ta nt tc,sL la nl lc,sL pa np pc],.bool false]) (w':=u) (by go_simp) ((H78 _ hu).mono ?_);rintro e u1 ⟨rfl,hb1⟩;have hu1:bX W.heap.size W u1:=hu.trans (hb1.mono hu.size);refine⟨_,rfl,fun _=>hu1, ?_⟩;have hr:=hr0.below hb1 hr0.z;refine ahN 10 (.tuple #[.agg #[iN qi h',sL ta' n1 tc',sL la' n2 lc',sL pa' n3 pc'],iN qi al]) hu1 ?_ (hr:=fun u hu=>by go_simp);refine ahN 11 (.agg #[iN qi h',sL ta' n1 tc',sL la' n2 lc',sL pa' n3 pc']) hu1 ?_ (hr:=fun u hu=>by go_simp);refine ahN 12 (iN qi al) hu1 ?_ (hr:=fun u hu=>by go_simp);obtain⟨g1,g2⟩:=fin b6 u1 hus hu1 ⟨_,_,_,_,hr⟩;refine ahQ 14 (h:=ah1 (w':=((((u1.setCell ⟨b6,0,none⟩ (iN qi h')).setCell ⟨b6,1,none⟩ (sL ta' n1 tc')).setCell ⟨b6,2,none⟩ (sL la' n2 lc')).setCell ⟨b6,3,none⟩ (sL pa' n3 pc'))) ?_ ⟨fun _=>g2, ?_⟩)
  ·obtain⟨hz',c0,c1,c2,c3,f0,f1,f2,f3⟩:=hr;go_simp
  refine ahN 15 (iN qi al) g2 ?_ (hr:=fun u hu=>by go_simp);refine ahZ ?_;have hK:=K _ _ hus g2 g1;clear K;go_simp;exact hK
theorem aoj (V:BkV) (B:Bk) (k n A:Int) (w:wD) (hs:aB w V B) (hv:Vars w) (hA:A=if btw k 0 ((B.pairs.length:Int)-1)=true then fF B (bP B n) else fF B false) (hne:A≠0):
  cF tP 8 #[V.val B,iN qi k,iN qi n] w fun e w'=>e= rT (.tuple #[iN qi 0,iN qi A])/\bX w.heap.size w w':=by
 obtain⟨ta,la,pa,tc,lc,pc⟩:=V;have Hs:=lH hs;have Hv:=lH hv
 cases hbt:btw k 0 ((B.pairs.length:Int)-1) with
 |true=>
  rw[hbt,if_pos rfl] at hA;have Hbi:=lH hbt;have Hres:Hid (bU ⟨ta,la,pa,tc,lc,pc⟩ B (fF B (bP B n))= .tuple #[.agg #[iN qi 0,sL none 0 0,sL none 0 0,sL none 0 0],iN qi A]):=lH (by rw[<-hA,lC hne]);clear hs hv hA hbt;go_enter Tryz.func8,Tryz.ntmps8
  go_wp2_with fail
  generalize hWd:w.alloc (cL #[iN qi B.hours,sL ta B.towns.length tc,sL la B.links.length lc,sL pa B.pairs.length pc] 26)=W;have HBW:Hid (bX w.heap.size w W):=lH (by subst hWd;exact(bR _ _).alloc (nR _) _);have k0:W.cell? ⟨w.heap.size,0,none⟩=some (iN qi B.hours):=by subst hWd;go_simp
  have k1:W.cell? ⟨w.heap.size,1,none⟩=some (sL ta B.towns.length tc):=by subst hWd;go_simp
  have k2:W.cell? ⟨w.heap.size,2,none⟩=some (sL la B.links.length lc):=by subst hWd;go_simp
  have k3:W.cell? ⟨w.heap.size,3,none⟩=some (sL pa B.pairs.length pc):=by subst hWd;go_simp
  clear hWd;refine Code.wp_mono ?_ (aaH ta la pa tc lc pc B k n Hbi.out w W _ Hs.out Hv.out HBW k0 k1 k2 k3 0 none none none 0 0 0 0 0 0 A Hres.out);rintro e a w' hq
  cases e with
  |normal=>
   obtain⟨b8,rfl,hb8,hbel,hrow⟩:=hq;have HBw':Hid (bX w.heap.size w w'):=lH (HBW.out.trans (hbel.mono HBW.out.size));clear k0 k1 k2 k3 hb8 hbel hrow;go_wp2
   go_ret2
   exact⟨rfl,HBw'.out⟩
  |_=>exact hq.elim
 |false=>
  rw[hbt,if_neg (by decide)] at hA;have H0:Hid (∀u,cF tP 40 #[.agg #[iN qi B.hours,sL ta B.towns.length tc,sL la B.links.length lc,sL pa B.pairs.length pc],iN qi k] u fun e u'=>e= rT (.bool false)/\bX u.heap.size u u'):=lH fun u=>(c83 ⟨ta,la,pa,tc,lc,pc⟩ B k u Hs.out.np).mono fun _ _ h=>⟨by rw[h.1,hbt],h.2⟩;have HB:Hid (∀u,bX w.heap.size w u->cF tP 39 #[.agg #[iN qi B.hours,sL ta B.towns.length tc,sL la B.links.length lc,sL pa B.pairs.length pc],.bool false] u fun e u'=>e= rT (.tuple #[.agg #[iN qi 0,sL none 0 0,sL none 0 0,sL none 0 0],iN qi A])/\bX u.heap.size u u'):=lH fun u hu=>(c78 ⟨ta,la,pa,tc,lc,pc⟩ B false u (Hs.out.below hu (nR _)) (Hv.out.v2.below hu (nR _))).mono fun _ _ h=>⟨by rw[h.1,<-hA,lC hne],h.2⟩;clear hs hv hA hbt;go_enter Tryz.func8,Tryz.ntmps8
  go_wp2_with fail
  generalize hWd:w.alloc (cL #[iN qi B.hours,sL ta B.towns.length tc,sL la B.links.length lc,sL pa B.pairs.length pc] 26)=W;have HBW:Hid (bX w.heap.size w W):=lH (by subst hWd;exact(bR _ _).alloc (nR _) _);have k0:W.cell? ⟨w.heap.size,0,none⟩=some (iN qi B.hours):=by subst hWd;go_simp
  have k1:W.cell? ⟨w.heap.size,1,none⟩=some (sL ta B.towns.length tc):=by subst hWd;go_simp
  have k2:W.cell? ⟨w.heap.size,2,none⟩=some (sL la B.links.length lc):=by subst hWd;go_simp
  have k3:W.cell? ⟨w.heap.size,3,none⟩=some (sL pa B.pairs.length pc):=by subst hWd;go_simp
  clear hWd;refine aoi _ w.heap.size k n 0 none none none 0 0 0 0 0 0 A W B.hours ta la pa B.towns.length B.links.length B.pairs.length tc lc pc k0 k1 k2 k3 (fun u _=>H0.out u) (fun u hu=>HB.out u (HBW.out.trans (hu.mono HBW.out.size))) ?_;intro b8 w' hb8 hbel hrow;have HBw':Hid (bX w.heap.size w w'):=lH (HBW.out.trans (hbel.mono HBW.out.size));clear k0 k1 k2 k3 hb8 hbel hrow;go_wp2
  go_ret2
  exact⟨rfl,HBw'.out⟩
structure Alike (A B:Bk):Prop where
 hours:B.hours=A.hours
 towns:B.towns=A.towns
 links:B.links=A.links
 len:B.pairs.length=A.pairs.length
 one: ∀i,B.pone i=A.pone i
 two: ∀i,B.ptwo i=A.ptwo i
theorem Alike.direct {A B:Bk} (s:Alike A B) (a b:Int):B.direct a b=A.direct a b:=by
 have h1: ∀n i,B.directFrom a b n i=A.directFrom a b n i:=by
  intro n
  induction n with
  |zero=>intro i;rfl
  |succ n ih=>
   intro i;unfold Bk.directFrom;rw[show B.one i=A.one i by unfold Bk.one;rw[s.links],show B.two i=A.two i by unfold Bk.two;rw[s.links],ih]
 unfold Bk.direct;rw[h1,s.links,show B.spokes=A.spokes by unfold Bk.spokes;rw[s.towns]]
theorem Alike.spokes {A B:Bk} (s:Alike A B):B.spokes=A.spokes:=by unfold Bk.spokes;rw[s.towns]
theorem Alike.ld {A B:Bk} (s:Alike A B) (T c:Nat->Int) (k:Nat): ∀n,adu B T c k n=adu A T c k n
 | 0=>rfl
 |n+1=>by
  unfold adu;rw[s.ld T c k n,s.one,s.two];unfold incr adr;rw[s.direct]
theorem Alike.cost {A B:Bk} (s:Alike A B) (T:Nat->Int): ∀n,fZ B T n=fZ A T n:=by
 intro n
 induction n with
 |zero=>rfl
 |succ n ih=>
  unfold fZ;rw[ih];unfold bH;rw[s.links]
theorem agE {A B:Bk} (s:Alike A B) (hA:A.alarm=0) (hB:B.alarm=0) {T:Nat->Int} (hT: ∀k,0<=T k) (most:Bool) (h:Nat) (hc: ∀i,i<A.pairs.length->A.call most h i<=B.call most h i) (k:Nat):A.inn T most h k<=B.inn T most h k:=by
 rw[aeE hA,aeE hB,s.len,s.ld];exact aeF hT hc k _ (nR _)
def agl (A B:Bk):Prop:= ∀h i,A.call true h i<=B.call true h i
theorem agF {A B:Bk} (s:Alike A B) (hA:A.alarm=0) (hB:B.alarm=0) {T:Nat->Int} (hT: ∀k,0<=T k) (most:Bool) {h:Nat} (hc: ∀i,A.call most h i<=B.call most h i) (hl:B.lackIn T most h<0):A.lackIn T most h<0:=by
 rw[vC] at hl ⊢;intro j hj;have h1:=hl j (by rw[s.spokes];exact hj);have h2:=agE s hA hB hT most h (fun i _=>hc i) j;omega
theorem agm {A B:Bk} (s:Alike A B) (hA:A.alarm=0) (hB:B.alarm=0) {T:Nat->Int} (hT: ∀k,0<=T k) (hc:agl A B) (h:aQ B T B.hours.toNat 0 1=1):aQ A T A.hours.toNat 0 1=1:=by
 rw[ae2 hA hT];rw[ae2 hB hT] at h;intro g hg;exact agF s hA hB hT true (hc g) (h g (by rw[s.hours];exact hg))
theorem agG {A B:Bk} (s:Alike A B) (hA:A.alarm=0) (hB:B.alarm=0) (hc:agl A B):(aC A aT).2<=(aC B aT).2:=by
 obtain⟨h1,h2,h3,h4⟩:=adK (B:=B) (may:=aT) hB;obtain⟨_,h5,h6⟩:=nN h1;have h7:=agm s hA hB (T:=trk (aC B aT).1) (fun k=>(lZ h6 k).1) hc h3;have h8:=adS (B:=A) (may:=aT) (gY hA) (xs:=(aC B aT).1) (by rw[h5,s.links]) h6 (fun _ _ h=>by cases h) h7;have h9:=aer h8;unfold adt at h9;rw[h4,s.cost,s.links];exact h9
def agd (p q:Pr):Prop:=q.one=p.one/\q.two=p.two/\q.calls.length=p.calls.length/\ ∀(m:Nat) (x y:Int×Int),p.calls[m]? =some x->q.calls[m]? =some y->0<=x.1/\x.1<=x.2/\x.1<=y.1/\x.2<=y.2
structure Dom (A B:Bk):Prop where
 hours:B.hours=A.hours
 towns:B.towns=A.towns
 links:B.links=A.links
 len:B.pairs.length=A.pairs.length
 at_: ∀(i:Nat) (p q:Pr),A.pairs[i]? =some p->B.pairs[i]? =some q->agd p q
theorem afZ {α β:Type} {l:List α} {m:List β} (h:m.length=l.length) (i:Nat):(∃x y,l[i]? =some x/\m[i]? =some y)\/(l[i]? =none/\m[i]? =none):=by
 by_cases hi:i<l.length
 ·exact .inl ⟨_,_,lG hi,lG (by omega)⟩
 ·exact .inr ⟨List.getElem?_eq_none (by omega),List.getElem?_eq_none (by omega)⟩
theorem Dom.calls {A B:Bk} (d:Dom A B) (most:Bool) (h i:Nat):A.call most h i<=B.call most h i:=by
 unfold Bk.call
 rcases afZ d.len i with ⟨p,q,h1,h2⟩ |⟨h1,h2⟩
 ·obtain⟨_,_,hl,hc⟩:=d.at_ i p q h1 h2;rw[h1,h2];simp only[Option.bind_some]
  rcases afZ hl h with ⟨x,y,g1,g2⟩ |⟨g1,g2⟩
  ·have:=hc h x y g1 g2;rw[g1,g2]
   cases most<;>simp<;>omega
  ·rw[g1,g2];simp
 ·rw[h1,h2];simp
theorem agI {p q:Pr} (h:agd p q) (hb:jc q.calls=false):jc p.calls=false:=by
 obtain⟨_,_,hl,hc⟩:=h;unfold jc at *;rw[List.any_eq_false] at *;intro x hx;obtain⟨m,hm,rfl⟩:=List.getElem_of_mem hx;have h1:=lG hm;have h2:=lG (show m<q.calls.length by omega);have h3:=hc m _ _ h1 h2;have h4:=hb _ (List.getElem_mem (show m<q.calls.length by omega));simp only[dw,Bool.not_eq_true',decide_eq_false_iff_not,Decidable.not_not] at *;omega
theorem agn {nt hours:Int}: ∀(ps qs:List Pr) (S:List (Int×Int)),qs.length=ps.length->(∀(i:Nat) (p q:Pr),ps[i]? =some p->qs[i]? =some q->agd p q)->fP nt hours S qs=0->fP nt hours S ps=0
 | [],_,_,_,_,_=>rfl
 |p::ps,[],_,h,_,_=>by simp at h
 |p::ps,q::qs,S,h,hp,h0=>by
  have h1:=hp 0 p q rfl rfl;have h1':=h1;obtain⟨e1,e2,e3,_⟩:=h1;unfold fP at h0 ⊢;rw[e1,e2,e3] at h0
  split at h0
  ·cases h0
  rename_i c1;rw[if_neg c1]
  split at h0
  ·cases h0
  rename_i c2;rw[if_neg c2]
  split at h0
  ·cases h0
  rename_i c3;rw[if_neg c3]
  split at h0
  ·rename_i c4;rw[if_pos c4]
   split at h0
   ·cases h0
   rename_i c5;rw[if_neg (by rw[agI h1' (by simpa using c5)];decide)];exact agn ps qs _ (by simpa using h) (fun i a b ha hb=>hp (i+1) a b (by simpa using ha) (by simpa using hb)) h0
  ·cases h0
theorem agq {B:Bk} (h0:iZ B.hours=0) (h1:fM B.towns=0) (h2:dA B.towns.length B.links=0):B.alarm=dR B.towns.length B.hours B.pairs:=by
 unfold Bk.alarm;simp only[kH,alK];rw[if_pos h0,if_pos h1,if_pos h2]
 split
 ·rename_i h;exact h.symm
 ·rfl
theorem Dom.alarm {A B:Bk} (d:Dom A B) (h:B.alarm=0):A.alarm=0:=by
 obtain⟨h0,h1,h2,h3⟩:=GX h;rw[d.hours] at h0 h3;rw[d.towns] at h1 h2 h3;rw[d.links] at h2;rw[agq h0 h1 h2];unfold dR at h3 ⊢;rw[d.len] at h3
 split at h3
 ·cases h3
 ·rename_i c;rw[if_neg c];exact agn _ _ _ d.len d.at_ h3
theorem ahg {nt hours:Int}: ∀(ps qs:List Pr) (S:List (Int×Int)),qs.length=ps.length->(∀(i:Nat) (p q:Pr),ps[i]? =some p->qs[i]? =some q->q.one=p.one/\q.two=p.two/\q.calls.length=p.calls.length/\jc q.calls=false)->fP nt hours S ps=0->fP nt hours S qs=0
 | [],[],_,_,_,_=>rfl
 | [],q::qs,_,h,_,_=>by simp at h
 |p::ps,[],_,h,_,_=>by simp at h
 |p::ps,q::qs,S,h,hp,h0=>by
  obtain⟨e1,e2,e3,e4⟩:=hp 0 p q rfl rfl;unfold fP at h0 ⊢;rw[e1,e2,e3]
  split at h0
  ·cases h0
  rename_i c1;rw[if_neg c1]
  split at h0
  ·cases h0
  rename_i c2;rw[if_neg c2]
  split at h0
  ·cases h0
  rename_i c3;rw[if_neg c3]
  split at h0
  ·rename_i c4;rw[if_pos c4]
   split at h0
   ·cases h0
   rw[if_neg (by rw[e4];decide)];exact ahg ps qs _ (by simpa using h) (fun i a b ha hb=>hp (i+1) a b (by simpa using ha) (by simpa using hb)) h0
  ·cases h0
theorem aho {A B:Bk} (hA:A.alarm=0) (e1:B.hours=A.hours) (e2:B.towns=A.towns) (e3:B.links=A.links) (e4:B.pairs.length=A.pairs.length) (e5: ∀(i:Nat) (p q:Pr),A.pairs[i]? =some p->B.pairs[i]? =some q->q.one=p.one/\q.two=p.two/\q.calls.length=p.calls.length/\jc q.calls=false):B.alarm=0:=by
 obtain⟨h0,h1,h2,h3⟩:=GX hA;rw[agq (by rw[e1];exact h0) (by rw[e2];exact h1) (by rw[e2,e3];exact h2),e1,e2];unfold dR at h3 ⊢;rw[e4]
 split at h3
 ·cases h3
 ·rename_i c;rw[if_neg c];exact ahg _ _ _ e4 e5 h3
theorem ag9 (B:Bk) (i h:Nat) (y:Int×Int):(fD B i h y).pairs.length=B.pairs.length:=by show (List.modify _ _ _).length=_;rw[List.length_modify]
theorem aha {B:Bk} {i h j:Nat} {y:Int×Int} {p q:Pr} (hp:B.pairs[j]? =some p) (hq:(fD B i h y).pairs[j]? =some q):q.one=p.one/\q.two=p.two/\q.calls.length=p.calls.length/\ ∀m,q.calls[m]? =if j=i/\m=h/\m<p.calls.length then some y else p.calls[m]? :=by
 obtain⟨q3,e0,e1,e2,e3,e4⟩:=mO hq;rw[hp] at e0
 cases e0
 exact⟨e1,e2,e3,fun m=>by rw[e4 m]⟩
theorem ahp {l:List (Int×Int)}:jc l=false↔ ∀(m:Nat) (x:Int×Int),l[m]? =some x->dw x=true:=by
 unfold jc;rw[List.any_eq_false];constructor
 ·intro h m x hx;have:=h x (List.mem_of_getElem? hx);simpa using this
 ·intro h x hx;obtain⟨m,hm,rfl⟩:=List.getElem_of_mem hx;rw[h m _ (lG hm)]
  decide
theorem ahq {B:Bk} (hB:B.alarm=0) {i h:Nat} {y:Int×Int} (hy:dw y=true):(fD B i h y).alarm=0:=by
 refine aho hB rfl rfl rfl (ag9 B i h y) fun j p q hp hq=> ?_;obtain⟨e1,e2,e3,e4⟩:=aha hp hq;refine⟨e1,e2,e3,ahp.2 fun m x hx=> ?_⟩;rw[e4 m] at hx
 split at hx
 ·cases hx;exact hy
 ·have:=((gY hB).fine.calls j p hp).2 m x hx;simpa[dw] using this
theorem ahr (B:Bk) (i h:Nat) (y:Int×Int):Alike B (fD B i h y):=by
 refine⟨rfl,rfl,rfl,ag9 B i h y,fun j=> ?_,fun j=> ?_⟩
 all_goals
  rcases afZ (ag9 B i h y) j with ⟨p,q,h1,h2⟩ |⟨h1,h2⟩
 ·unfold Bk.pone;rw[h1,h2];exact(aha h1 h2).1
 ·unfold Bk.pone;rw[h1,h2]
 ·unfold Bk.ptwo;rw[h1,h2];exact(aha h1 h2).2.1
 ·unfold Bk.ptwo;rw[h1,h2]
theorem ahs {B:Bk} {i h:Nat} {y:Int×Int} {L:Nat} {p:Pr} (hp:B.pairs[i]? =some p) (hL:p.calls.length=L) (hh:h<L) (most:Bool) (g j:Nat):(fD B i h y).call most g j=if j=i/\g=h then (if most then y.2 else y.1) else B.call most g j:=by
 unfold Bk.call
 rcases afZ (ag9 B i h y) j with ⟨a,b,h1,h2⟩ |⟨h1,h2⟩
 ·obtain⟨e1,e2,e3,e4⟩:=aha h1 h2;rw[h1,h2];simp only[Option.bind_some];rw[e4 g];by_cases c:j=i/\g=h
  ·obtain⟨rfl,rfl⟩:=c;rw[hp] at h1
   cases h1
   rw[if_pos ⟨rfl,rfl,by omega⟩,if_pos ⟨rfl,rfl⟩]
  ·rw[if_neg (fun k=>c ⟨k.1,k.2.1⟩),if_neg c]
 ·rw[h1,h2];by_cases c:j=i/\g=h
  ·obtain⟨rfl,rfl⟩:=c;rw[hp] at h1;cases h1
  ·rw[if_neg c]
theorem aht {B:Bk} {i h:Nat} {p:Pr} (hp:B.pairs[i]? =some p) (hh:h<p.calls.length) (most:Bool):B.call most h i=if most then (iD B i h).2 else (iD B i h).1:=by
 unfold Bk.call iD;have hx:p.calls[h]? =some p.calls[h]:=lG hh;rw[hp];simp only[Option.bind_some,hx,Option.getD_some]
theorem ahh {B:Bk} (hB:B.alarm=0) {i h:Nat} (hi:i<B.pairs.length) (hh:(h:Int)<B.hours):0<=(iD B i h).1/\(iD B i h).1<=(iD B i h).2/\(iD B i h).2<=5:=by
 have hp:=lG hi;have hL:=(gY hB).fine.calls i _ hp;have hh2:h<B.pairs[i].calls.length:=by have:=hL.1;omega
 have hx:B.pairs[i].calls[h]? =some B.pairs[i].calls[h]:=lG hh2;have:iD B i h=B.pairs[i].calls[h]:=by unfold iD;rw[hp,Option.bind_some,hx];rfl
 rw[this];exact hL.2 h _ hx
end Go.Proofs.YtaikibfkggglgaaGreatDoor
