/- A part of the proof of a law; no conditions of its own. -/
import Derived.Test.YtfiiffnbggnkfaaDoorAv25
import Derived.Test.YtfiiffnbggnkfaaDoorAv18
import Derived.Test.YtfiiffnbggnkfaaDoorRows
import Derived.Conc.LeavingOf
import Derived.LaidMore
import Derived.OpenShut
import Derived.Carry
import Derived.ProofKit
import Derived.Stop.Joined
import Derived.Test.YtfiiffnbggnkfaaDoorTie
import Derived.Test.YtfiiffnbggnkfaaDoorCards
import Derived.SevenTiedAt
import Derived.OrdersHeld
open Go.RowKit renaming Below→bX
open Go renaming Calls→cF, Value→vL, World→wD
open Go.IntKind renaming i64→qi
open Go.Value renaming int→iN, slice→sL, pointer→pN
open Go.Ending renaming returned→rT
open Go.Obj renaming cells→cL
set_option maxRecDepth 100000
open Nat renaming le_refl→nR
open Go.Lib renaming hid→lH
open Go.RowKit.Below renaming refl→bR
open Go.Proofs.Tryd renaming prog→tP
open List renaming getElem?_eq_getElem→lG
open Go.World renaming block_lt_of_cell?→wBk
open Nat renaming lt_of_lt_of_le→nL
set_option maxHeartbeats 4000000
namespace Go.Proofs.YtfiiffnbggnkfaaDoor
open Go.RowKit Go.Rent Go.Tp Go.Conc
noncomputable def vk:Code:=match lw8 with
 | .seq _ (.seq _ (.seq _ (.seq _ (.seq _ (.seq _ (.seq _ c))))))=>c
 |_=> .skip
theorem vw {u:wD} {V:BkV} (h:aB u V exB):V.pa=none->V.pc=0:=fun e=>by
 obtain⟨b,o,sa,sc,h1,_⟩:=h.pairs 0 (exB.pairs[0]'(by decide)) (lG (by decide));rw[e] at h1
 cases h1
theorem abE (V:BkV) (u:wD) (b:Nat) (hs:aB u V exB) (hv:Vars u) (hx:SlI u (some ⟨b,0,none⟩) [1,1,1,3]):cF tP 17 #[V.val exB,sL (some ⟨b,0,none⟩) 4 4] u fun e u'=>e= rT (.tuple #[iN qi 0,iN qi 0,iN qi 1,iN qi 0])/\bX u.heap.size u u':=by
 have h:=c25 V exB [1,1,1,3] (some ⟨b,0,none⟩) 4 u hs hv hx (by decide);rw[abq] at h;exact h
theorem abG (V:BkV) (u:wD) (b:Nat) (hs:aB u V exB) (hv:Vars u) (hx:SlI u (some ⟨b,0,none⟩) [2,2,1,3]):cF tP 18 #[V.val exB,sL (some ⟨b,0,none⟩) 4 4] u fun e u'=> ∃fa fc,e= rT (.tuple #[sL (some ⟨fa,0,none⟩) 4 fc,iN qi 0])/\SlI u' (some ⟨fa,0,none⟩) [0,1,0,0]/\bX u.heap.size u u':=by
 refine(c27 V exB [2,2,1,3] (some ⟨b,0,none⟩) 4 u hs hv hx (by decide)).mono ?_;rintro e u' h;unfold qP at h;rw[if_pos (NS _ (by decide) (by decide))] at h;obtain⟨v,rfl,ho,hb⟩:=h;have ho2:u'.ownsRow u.heap.size 3 1 v ([0,1,0,0]:List Int).length (ints [0,1,0,0]):=by rw[<-abh];exact ho
 obtain⟨fa,fc,rfl,_,_,hsl,_⟩:=nO ho2 (by decide);exact⟨fa,fc,rfl,hsl,hb⟩
theorem abH (V:BkV) (u:wD) (hs:aB u V exB) (hv:Vars u):cF tP 19 #[V.val exB] u fun e u'=>e= rT (.tuple #[iN qi 3,iN qi 20,iN qi 0])/\bX u.heap.size u u':=by
 have h:=c50 V exB u hs hv;rw[aa9] at h;exact h
theorem abI (V:BkV) (u:wD) (hs:aB u V exB) (hv:Vars u):cF tP 20 #[V.val exB,iN qi 2,iN qi 1] u fun e u'=>e= rT (.tuple #[iN qi 5,iN qi 0])/\bX u.heap.size u u':=by
 have h:=aaI V exB 2 1 u hs hv (vw hs) (gY lq) (by decide) (by decide) (by decide+kernel);rw[show nU exB 2 ((1 :Nat):Int)=_ from abj] at h;exact h
theorem abJ (V:BkV) (u:wD) (hs:aB u V exB) (hv:Vars u):cF tP 21 #[V.val exB,iN qi 0,iN qi 75] u fun e u'=>e= rT (.tuple #[iN qi 1,iN qi 0])/\bX u.heap.size u u':=by
 have h:=NH V exB 0 75 u hs hv (vw hs) (by decide) lq (by decide);rw[abk] at h;exact h
theorem abK (V:BkV) (u:wD) (hs:aB u V exB) (hv:Vars u):cF tP 21 #[V.val exB,iN qi 0,iN qi 59] u fun e u'=>e= rT (.tuple #[iN qi 0,iN qi 9])/\bX u.heap.size u u':=by
 have h:=NH V exB 0 59 u hs hv (vw hs) (by decide) lq (by decide);rw[abl] at h;exact h
theorem abL (V:BkV) (u:wD) (hs:aB u V exB) (hv:Vars u):cF tP 22 #[V.val exB,iN qi 50] u fun e u'=> ∃V' O,e= rT (.tuple #[V'.val exB,iN qi 0])/\bI u' u.heap.size V' (bQ exB 50) O/\bX u.heap.size u u':=
 aaP V exB 50 u hs hv (vw hs) lq (by decide) abm
def LwB (w:wD) (b1 ha hc la9 lc9 ca cc:Nat) (it:List Item) (a:Act) (u:wD):Prop:= ∃sp sc gb V' n O,it= [.code vk]/\Sl a 302 [(32,iN qi 0),(31,pN (some ⟨gb,0,none⟩)),(30,iN qi 9),(29,iN qi 0),(28,iN qi 0),(27,iN qi 1),(26,iN qi 0),(25,iN qi 5),(24,iN qi 0),(23,iN qi 20),(22,iN qi 3),(21,iN qi 0),(20,sL (some ⟨sp,0,none⟩) 4 sc),(19,iN qi 0),(18,iN qi 1),(17,iN qi 0),(16,iN qi 0),(15,iN qi 0),(14,iN qi 1),(13,iN qi 0),(12,iN qi 0),(11,iN qi 0),(10,iN qi 2),(9,iN qi 0),(8,iN qi 60),(7,sL (some ⟨ca,0,none⟩) 4 cc),(6,iN qi 0),(5,sL (some ⟨la9,0,none⟩) 4 lc9),(4,iN qi 0),(3,iN qi 80),(2,sL (some ⟨ha,0,none⟩) 4 hc),(1,pN (some ⟨b1,0,none⟩)),(0,.bool false)]/\SlI u (some ⟨sp,0,none⟩) [0,1,0,0]/\
 u.cell? ⟨gb,3,none⟩=some (sL V'.pa exB.pairs.length V'.pc)/\bI u n V' (bQ exB 50) O/\bX w.heap.size w u
theorem abM (b1 ha hc la9 lc9 ca cc:Nat) (a:Act) (w:wD) (V:BkV) (hB:dL w b1 V exB) (hS:Sl a 302 [(15,iN qi 0),(14,iN qi 1),(13,iN qi 0),(12,iN qi 0),(11,iN qi 0),(10,iN qi 2),(9,iN qi 0),(8,iN qi 60),(7,sL (some ⟨ca,0,none⟩) 4 cc),(6,iN qi 0),(5,sL (some ⟨la9,0,none⟩) 4 lc9),(4,iN qi 0),(3,iN qi 80),(2,sL (some ⟨ha,0,none⟩) 4 hc),(1,pN (some ⟨b1,0,none⟩)),(0,.bool false)]):
  Comes tP [.code lw8] (LwB w b1 ha hc la9 lc9 ca cc) a w:=by
 obtain⟨ta,la,pa,tc,lc,pc⟩:=V;obtain⟨t,rfl,hT⟩:=hS.lit;simp only[SlT] at hT;obtain⟨h15,h14,h13,h12,h11,h10,h9,h8,h7,h6,h5,h4,h3,h2,h1,h0,_⟩:=hT;simp only[up,Nat.reduceAdd,h15,h14,h13,h12,h11,h10,h9,h8,h7,h6,h5,h4,h3,h2,h1,h0];clear h15 h14 h13 h12 h11 h10 h9 h8 h7 h6 h5 h4 h3 h2 h1 h0 hS;have HB:Hid (∀u,bX w.heap.size w u->dL u b1 ⟨ta,la,pa,tc,lc,pc⟩ exB):=lH fun u hu=>hB.below hu;have hz:b1<w.heap.size:=wBk _ _ hB.c0;have e0:=hB.c0;have e1:=hB.c1;have e2:=hB.c2;have e3:=hB.c3;have HK0:Hid (bX w.heap.size w w):=lH (bR _ _);clear hB;simp only[lw8,lw7,lw6,lv5,lu,Tryd.f5,Option.getD_some];refine aK (bg ?_)
 go_wp2_with fail
 generalize hWe:w.alloc (cL #[iN qi 1,iN qi 1,iN qi 1,iN qi 3] 3)=W1;have hbe:bX w.heap.size w W1:=by subst hWe;exact(bR _ _).alloc (nR _) _
 have hsl:SlI W1 (some ⟨w.heap.size,0,none⟩) [1,1,1,3]:=by subst hWe;exact sl4 (by go_simp) (by go_simp) (by go_simp) (by go_simp)
 have HL1:=lH (HK0.out.trans (hbe.mono HK0.out.size));have hbk:=HB.out W1 HL1.out;refine(abE ⟨ta,la,pa,tc,lc,pc⟩ W1 w.heap.size hbk.book hbk.vars hsl).mono ?_;rintro e w1 ⟨rfl,hb4⟩;have HK1:=lH (HL1.out.trans (hb4.mono HL1.out.size));clear hWe hbe hsl hbk hb4 hz e0 e1 e2 e3;have hb':=HB.out w1 HK1.out;have e0:=hb'.c0;have e1:=hb'.c1;have e2:=hb'.c2;have e3:=hb'.c3;have hz:b1<w1.heap.size:=wBk _ _ e0;clear hb';go_wp2;refine aK (bg ?_)
 go_wp2_with fail
 generalize hWe:w1.alloc (cL #[iN qi 2,iN qi 2,iN qi 1,iN qi 3] 3)=W2;have hbe:bX w1.heap.size w1 W2:=by subst hWe;exact(bR _ _).alloc (nR _) _
 have hsl:SlI W2 (some ⟨w1.heap.size,0,none⟩) [2,2,1,3]:=by subst hWe;exact sl4 (by go_simp) (by go_simp) (by go_simp) (by go_simp)
 have HL2:=lH (HK1.out.trans (hbe.mono HK1.out.size));have hbk:=HB.out W2 HL2.out;refine(abG ⟨ta,la,pa,tc,lc,pc⟩ W2 w1.heap.size hbk.book hbk.vars hsl).mono ?_;rintro e w2 ⟨sp,sc,rfl,hsp,hb4⟩;have HK2:=lH (HL2.out.trans (hb4.mono HL2.out.size));have HS2:=lH hsp;clear hsp;clear hWe hbe hsl hbk hb4 hz e0 e1 e2 e3;have hb':=HB.out w2 HK2.out;have e0:=hb'.c0;have e1:=hb'.c1;have e2:=hb'.c2;have e3:=hb'.c3;have hz:b1<w2.heap.size:=wBk _ _ e0;clear hb';go_wp2;refine aK (bg ?_)
 go_wp2_with fail
 have hbk:=HB.out w2 HK2.out;refine(abH ⟨ta,la,pa,tc,lc,pc⟩ w2 hbk.book hbk.vars).mono ?_;rintro e w3 ⟨rfl,hb4⟩;have HK3:=lH (HK2.out.trans (hb4.mono HK2.out.size));have HS3:=lH (HS2.out.below hb4 (nR _));clear hbk hb4 hz e0 e1 e2 e3;have hb':=HB.out w3 HK3.out;have e0:=hb'.c0;have e1:=hb'.c1;have e2:=hb'.c2;have e3:=hb'.c3;have hz:b1<w3.heap.size:=wBk _ _ e0;clear hb';go_wp2;refine aK (bg ?_)
 go_wp2_with fail
 have hbk:=HB.out w3 HK3.out;refine(abI ⟨ta,la,pa,tc,lc,pc⟩ w3 hbk.book hbk.vars).mono ?_;rintro e w4 ⟨rfl,hb4⟩;have HK4:=lH (HK3.out.trans (hb4.mono HK3.out.size));have HS4:=lH (HS3.out.below hb4 (nR _));clear hbk hb4 hz e0 e1 e2 e3;have hb':=HB.out w4 HK4.out;have e0:=hb'.c0;have e1:=hb'.c1;have e2:=hb'.c2;have e3:=hb'.c3;have hz:b1<w4.heap.size:=wBk _ _ e0;clear hb';go_wp2;refine aK (bg ?_)
 go_wp2_with fail
 have hbk:=HB.out w4 HK4.out;refine(abJ ⟨ta,la,pa,tc,lc,pc⟩ w4 hbk.book hbk.vars).mono ?_;rintro e w5 ⟨rfl,hb4⟩;have HK5:=lH (HK4.out.trans (hb4.mono HK4.out.size));have HS5:=lH (HS4.out.below hb4 (nR _));clear hbk hb4 hz e0 e1 e2 e3;have hb':=HB.out w5 HK5.out;have e0:=hb'.c0;have e1:=hb'.c1;have e2:=hb'.c2;have e3:=hb'.c3;have hz:b1<w5.heap.size:=wBk _ _ e0;clear hb';go_wp2;refine aK (bg ?_)
 go_wp2_with fail
 have hbk:=HB.out w5 HK5.out;refine(abK ⟨ta,la,pa,tc,lc,pc⟩ w5 hbk.book hbk.vars).mono ?_;rintro e w6 ⟨rfl,hb4⟩;have HK6:=lH (HK5.out.trans (hb4.mono HK5.out.size));have HS6:=lH (HS5.out.below hb4 (nR _));clear hbk hb4 hz e0 e1 e2 e3;have hb':=HB.out w6 HK6.out;have e0:=hb'.c0;have e1:=hb'.c1;have e2:=hb'.c2;have e3:=hb'.c3;have hz:b1<w6.heap.size:=wBk _ _ e0;clear hb';go_wp2;refine aK (bg ?_)
 go_wp2_with fail
 have hbk:=HB.out w6 HK6.out;refine(abL ⟨ta,la,pa,tc,lc,pc⟩ w6 hbk.book hbk.vars).mono ?_;rintro e w7 ⟨V',O,rfl,hO,hb4⟩;have HK7:=lH (HK6.out.trans (hb4.mono HK6.out.size));have HS7:=lH (HS6.out.below hb4 (nR _));have HO:=lH hO;clear hO;obtain⟨va,vl,vp,vtc,vlc,vpc⟩:=V';clear hbk hb4 hz e0 e1 e2 e3;have hb':=HB.out w7 HK7.out;have e0:=hb'.c0;have e1:=hb'.c1;have e2:=hb'.c2;have e3:=hb'.c3;have hz:b1<w7.heap.size:=wBk _ _ e0;clear hb';go_wp2;have hbz:bX w7.heap.size w7 (w7.alloc (cL #[iN qi exB.hours,sL va exB.towns.length vtc,sL vl exB.links.length vlc,sL vp exB.pairs.length vpc] 26)):=(bR _ _).alloc (nR _) _;exact dO ⟨sp,sc,w7.heap.size,⟨va,vl,vp,vtc,vlc,vpc⟩,_,O,rfl,⟨rfl,rfl,rfl,rfl,rfl,rfl,rfl,rfl,rfl,rfl,rfl,rfl,rfl,rfl,rfl,rfl,rfl,rfl,rfl,rfl,rfl,rfl,rfl,rfl,rfl,rfl,rfl,rfl,rfl,rfl,rfl,rfl,rfl,rfl,rfl,trivial⟩,HS7.out.below hbz (nR _),by go_simp,HO.out.below hbz,HK7.out.trans (hbz.mono HK7.out.size)⟩
noncomputable def FH:Code:=match vk with
 | .seq _ c=>c
 |_=> .skip
theorem abN {R:vL->wD->Prop} {b1 ha hc la9 lc9 ca cc sp sc gb:Nat} {a:Act} {u:wD} {V:BkV} (hB:dL u b1 V exB) (hS:Sl a 302 [(32,iN qi 0),(31,pN (some ⟨gb,0,none⟩)),(30,iN qi 9),(29,iN qi 0),(28,iN qi 0),(27,iN qi 1),(26,iN qi 0),(25,iN qi 5),(24,iN qi 0),(23,iN qi 20),(22,iN qi 3),(21,iN qi 0),(20,sL (some ⟨sp,0,none⟩) 4 sc),(19,iN qi 0),(18,iN qi 1),(17,iN qi 0),(16,iN qi 0),(15,iN qi 0),(14,iN qi 1),(13,iN qi 0),(12,iN qi 0),(11,iN qi 0),(10,iN qi 2),(9,iN qi 0),(8,iN qi 60),(7,sL (some ⟨ca,0,none⟩) 4 cc),(6,iN qi 0),(5,sL (some ⟨la9,0,none⟩) 4 lc9),(4,iN qi 0),(3,iN qi 80),(2,sL (some ⟨ha,0,none⟩) 4 hc),(1,pN (some ⟨b1,0,none⟩)),(0,.bool false)])
  (k: ∀a' u',Kept u.heap.size u u'->Sl a' 302 [(35,iN qi 0),(34,.bool true),(33,iN qi 1),(32,iN qi 0),(31,pN (some ⟨gb,0,none⟩)),(30,iN qi 9),(29,iN qi 0),(28,iN qi 0),(27,iN qi 1),(26,iN qi 0),(25,iN qi 5),(24,iN qi 0),(23,iN qi 20),(22,iN qi 3),(21,iN qi 0),(20,sL (some ⟨sp,0,none⟩) 4 sc),(19,iN qi 0),(18,iN qi 1),(17,iN qi 0),(16,iN qi 0),(15,iN qi 0),(14,iN qi 1),(13,iN qi 0),(12,iN qi 0),(11,iN qi 0),(10,iN qi 2),(9,iN qi 0),(8,iN qi 60),(7,sL (some ⟨ca,0,none⟩) 4 cc),(6,iN qi 0),(5,sL (some ⟨la9,0,none⟩) 4 lc9),(4,iN qi 0),(3,iN qi 80),(2,sL (some ⟨ha,0,none⟩) 4 hc),(1,pN (some ⟨b1,0,none⟩)),(0,.bool false)]->GL tP 5 [.code FH] R a' u'):GL tP 5 [.code vk] R a u:=by
 have hpc:=vw hB.book;simp only[vk,lw8,lw7,lw6,lv5,lu,Tryd.f5,Option.getD_some];refine kV good (oJ good ?_);refine BJ hB hS fun a hS=> ?_;refine BK 2 1 1 2 hS fun a u1 b hk1 hx hS=> ?_;have hB1:=hB.kept hk1;refine pz (aa7 u1 V exB [2,1,1,2] _ 4 10 hB1.book hB1.rows hpc hB1.vars hx (by decide) (NS _ (by decide) (by decide)) (by decide)) hS ?_;rintro a v u2 ⟨hv,hk2⟩ hS;rw[abn] at hv;have hv2:v= .tuple #[iN qi 1,.bool true,iN qi 0]:=hv;subst hv2;refine aU (.tuple #[iN qi 1,.bool true,iN qi 0]) hS fun a hS=> ?_;refine aU (iN qi 1) hS fun a hS=> ?_;refine aU (.bool true) hS fun a hS=> ?_;refine aU (iN qi 0) hS fun a hS=> ?_;refine aU (iN qi 1) hS fun a hS=> ?_;refine aU (.bool true) hS fun a hS=> ?_;refine aU (iN qi 0) hS fun a hS=> ?_;refine lY good ?_;exact k a u2 (hk1.trans (hk2.mono hk1.size)) ⟨hS.1,hS.2.1,hS.2.2.1,hS.2.2.2.1,hS.2.2.2.2.1,hS.2.2.2.2.2.2.2.2.2.2.2.2⟩
theorem abO (V:BkV) (u:wD) (b c:Nat) (hs:aB u V exB) (hv:Vars u) (hx:SlI u (some ⟨b,0,none⟩) [2,1,1,3]) (hc:SlI u (some ⟨c,0,none⟩) [1,4,0]):cF tP 24 #[V.val exB,sL (some ⟨b,0,none⟩) 4 4,sL (some ⟨c,0,none⟩) 3 3] u fun e u'=>e= rT (.tuple #[.bool true,iN qi 0])/\bX u.heap.size u u':=by
 have h:=c23 V exB [2,1,1,3] [1,4,0] (some ⟨b,0,none⟩) (some ⟨c,0,none⟩) 4 3 u hs hv hx (by decide) hc (by decide);rw[abo] at h;exact h
theorem abP (V:BkV) (u:wD) (b:Nat) (hs:aB u V exB) (hv:Vars u) (hx:SlI u (some ⟨b,0,none⟩) [4,3,1,0]):cF tP 25 #[V.val exB,sL (some ⟨b,0,none⟩) 4 4] u fun e u'=>e= rT (.tuple #[iN qi 80,iN qi 0])/\bX u.heap.size u u':=by
 have h:=c40 V exB [4,3,1,0] (some ⟨b,0,none⟩) 4 u hs hv hx (by decide);rw[abp] at h;exact h
theorem sl3 {u:wD} {b:Nat} {p q r:Int} (h0:u.cell? ⟨b,0,none⟩=some (iN qi p)) (h1:u.cell? ⟨b,1,none⟩=some (iN qi q)) (h2:u.cell? ⟨b,2,none⟩=some (iN qi r)):SlI u (some ⟨b,0,none⟩) [p,q,r]:=fun j x hx=>by
 match j,hx with
 | 0,hx=>cases hx;exact⟨b,0,rfl,h0⟩
 | 1,hx=>cases hx;exact⟨b,0,rfl,h1⟩
 | 2,hx=>cases hx;exact⟨b,0,rfl,h2⟩
theorem abQ {u W:wD} {x:Obj} {gb pb cb scc pc:Nat} (h:bX u.heap.size u W) (h1:W.cell? ⟨gb,3,none⟩=some (sL (some ⟨pb,0,none⟩) 3 pc)) (h2:W.cell? ⟨pb,1*3+2,none⟩=some (sL (some ⟨cb,0,none⟩) 2 scc)) (_:gb<u.heap.size) (_:pb<u.heap.size):
  bX u.heap.size u (W.alloc x)/\(W.alloc x).cell? ⟨gb,3,none⟩=some (sL (some ⟨pb,0,none⟩) 3 pc)/\(W.alloc x).cell? ⟨pb,1*3+2,none⟩=some (sL (some ⟨cb,0,none⟩) 2 scc):=
 ⟨h.alloc h.size _,aoF ((bR _ _).alloc (nR _) _) h1 (nR _),aoF ((bR _ _).alloc (nR _) _) h2 (nR _)⟩
theorem abR (b1 ha hc la9 lc9 ca cc sp sc gb:Nat) (a:Act) (w:wD) (V:BkV) (pb cb scc pcc:Nat) (hB:dL w b1 V exB) (hA:LvA w ha la9 ca) (hS:SlI w (some ⟨sp,0,none⟩) [0,1,0,0]) (hp:w.cell? ⟨gb,3,none⟩=some (sL (some ⟨pb,0,none⟩) 3 pcc)) (hO:w.cell? ⟨pb,1*3+2,none⟩=some (sL (some ⟨cb,0,none⟩) 2 scc)) (hX:SlB w (some ⟨cb,0,none⟩) [(0,3),(5,5)])
  (hSl:Sl a 302 [(35,iN qi 0),(34,.bool true),(33,iN qi 1),(32,iN qi 0),(31,pN (some ⟨gb,0,none⟩)),(30,iN qi 9),(29,iN qi 0),(28,iN qi 0),(27,iN qi 1),(26,iN qi 0),(25,iN qi 5),(24,iN qi 0),(23,iN qi 20),(22,iN qi 3),(21,iN qi 0),(20,sL (some ⟨sp,0,none⟩) 4 sc),(19,iN qi 0),(18,iN qi 1),(17,iN qi 0),(16,iN qi 0),(15,iN qi 0),(14,iN qi 1),(13,iN qi 0),(12,iN qi 0),(11,iN qi 0),(10,iN qi 2),(9,iN qi 0),(8,iN qi 60),(7,sL (some ⟨ca,0,none⟩) 4 cc),(6,iN qi 0),(5,sL (some ⟨la9,0,none⟩) 4 lc9),(4,iN qi 0),(3,iN qi 80),(2,sL (some ⟨ha,0,none⟩) 4 hc),(1,pN (some ⟨b1,0,none⟩)),(0,.bool false)]):FH.wp tP (bodyPost tP Tryd.f5 fun e w'=>e= rT (.bool true)/\bX w.heap.size w w') a w:=by
 obtain⟨ta,la,pa,tc,lc,pc⟩:=V;obtain⟨t,rfl,hT⟩:=hSl.lit;simp only[SlT] at hT;obtain⟨h35,h34,h33,h32,h31,h30,h29,h28,h27,h26,h25,h24,h23,h22,h21,h20,h19,h18,h17,h16,h15,h14,h13,h12,h11,h10,h9,h8,h7,h6,h5,h4,h3,h2,h1,h0,_⟩:=hT;simp only[up,Nat.reduceAdd,h35,h34,h33,h32,h31,h30,h29,h28,h27,h26,h25,h24,h23,h22,h21,h20,h19,h18,h17,h16,h15,h14,h13,h12,h11,h10,h9,h8,h7,h6,h5,h4,h3,h2,h1,h0];clear h35 h34 h33 h32 h31 h30 h29 h28 h27 h26 h25 h24 h23 h22 h21 h20 h19 h18 h17 h16 h15 h14 h13 h12 h11 h10 h9 h8 h7 h6 h5 h4 h3 h2 h1 h0 hSl;have HB:Hid (∀u,bX w.heap.size w u->dL u b1 ⟨ta,la,pa,tc,lc,pc⟩ exB):=lH fun u hu=>hB.below hu;have hz:b1<w.heap.size:=wBk _ _ hB.c0;have e0:=hB.c0;have e1:=hB.c1;have e2:=hB.c2;have e3:=hB.c3;have HA:=lH hA;have HS:=lH hS;have HP:=lH hp;have HO:=lH hO;have HX0:=lH hX;clear hB hA hS hp hO hX;simp only[FH,vk,lw8,lw7,lw6,lv5,lu,Tryd.f5,Option.getD_some]
 go_wp2_with fail
 generalize hWe:(w.alloc (cL #[iN qi 2,iN qi 1,iN qi 1,iN qi 3] 3)).alloc (cL #[iN qi 1,iN qi 4,iN qi 0] 3)=W1;have hbe:bX w.heap.size w W1:=by subst hWe;exact((bR _ _).alloc (nR _) _).alloc (by simp) _
 have hsl:SlI W1 (some ⟨w.heap.size,0,none⟩) [2,1,1,3]:=by subst hWe;exact sl4 (by go_simp) (by go_simp) (by go_simp) (by go_simp)
 have hsc:SlI W1 (some ⟨w.heap.size+1,0,none⟩) [1,4,0]:=by subst hWe;exact sl3 (by go_simp) (by go_simp) (by go_simp)
 have HL1:=lH hbe;have hbk:=HB.out W1 HL1.out;refine(abO ⟨ta,la,pa,tc,lc,pc⟩ W1 w.heap.size (w.heap.size+1) hbk.book hbk.vars hsl hsc).mono ?_;rintro e w1 ⟨rfl,hb4⟩;have HK1:=lH (HL1.out.trans (hb4.mono HL1.out.size));clear hWe hbe hsl hsc hbk hb4 hz e0 e1 e2 e3;have hb':=HB.out w1 HK1.out;have e0:=hb'.c0;have e1:=hb'.c1;have e2:=hb'.c2;have e3:=hb'.c3;have hz:b1<w1.heap.size:=wBk _ _ e0;clear hb'
 go_wp2_with fail
 generalize hWe:w1.alloc (cL #[iN qi 4,iN qi 3,iN qi 1,iN qi 0] 3)=W2;have hbe:bX w1.heap.size w1 W2:=by subst hWe;exact(bR _ _).alloc (nR _) _
 have hsl:SlI W2 (some ⟨w1.heap.size,0,none⟩) [4,3,1,0]:=by subst hWe;exact sl4 (by go_simp) (by go_simp) (by go_simp) (by go_simp)
 have HL2:=lH (HK1.out.trans (hbe.mono HK1.out.size));have hbk:=HB.out W2 HL2.out;refine(abP ⟨ta,la,pa,tc,lc,pc⟩ W2 w1.heap.size hbk.book hbk.vars hsl).mono ?_;rintro e w2 ⟨rfl,hb4⟩;have HK2:=lH (HL2.out.trans (hb4.mono HL2.out.size));clear hWe hbe hsl hbk hb4 hz e0 e1 e2 e3
 go_wp2_with fail
 generalize hWe:w2.alloc (cL #[iN qi 4,iN qi 3,iN qi 1,iN qi 0] 3)=W3;have hbe:bX w2.heap.size w2 W3:=by subst hWe;exact(bR _ _).alloc (nR _) _
 have hsl:SlI W3 (some ⟨w2.heap.size,0,none⟩) [4,3,1,0]:=by subst hWe;exact sl4 (by go_simp) (by go_simp) (by go_simp) (by go_simp)
 have HL3:=lH (HK2.out.trans (hbe.mono HK2.out.size));refine(c38 [4,3,1,0] [4,3,1,0] (some ⟨ha,0,none⟩) (some ⟨w2.heap.size,0,none⟩) hc 4 W3 (HA.out.hub.below HL3.out (nR _)) hsl (by decide) (by decide)).mono ?_;rintro e w3 ⟨rfl,hb4⟩;have HK3:=lH (HL3.out.trans (hb4.mono HL3.out.size));clear hWe hbe hsl hb4;rw[show decide (([4,3,1,0]:List Int)= [4,3,1,0])=true from by decide]
 go_wp2_with (go_at_call 8;refine(EO _ _ _).mono ?_;rintro e w' ⟨rfl,rfl⟩)
 generalize hWe:(((((w3.alloc (cL #[iN qi 1,iN qi 4] 33)).alloc (cL #[iN qi 1,iN qi 3] 33)).alloc (cL #[iN qi 1,iN qi 1] 33)).alloc (cL #[iN qi 0,iN qi 0] 33)).alloc (cL #[iN qi 1,iN qi 4,iN qi 1,iN qi 3,iN qi 1,iN qi 1,iN qi 0,iN qi 0] 33))=W4;have hbe:bX w3.heap.size w3 W4:=by subst hWe;exact(((((bR _ _).alloc (nR _) _).alloc (by simp) _).alloc (by simp;omega) _).alloc (by simp;omega) _).alloc (by simp;omega) _
 have hsl:SlB W4 (some ⟨w3.heap.size+1+1+1+1,0,none⟩) [(1,4),(1,3),(1,1),(0,0)]:=fun j x hx=>by
  subst hWe
  match j,hx with
  | 0,hx=>cases hx;exact⟨_,0,rfl,by go_simp,by go_simp⟩
  | 1,hx=>cases hx;exact⟨_,0,rfl,by go_simp,by go_simp⟩
  | 2,hx=>cases hx;exact⟨_,0,rfl,by go_simp,by go_simp⟩
  | 3,hx=>cases hx;exact⟨_,0,rfl,by go_simp,by go_simp⟩
 have HL4:=lH (HK3.out.trans (hbe.mono HK3.out.size));refine(c18 [(1,4),(1,3),(1,1),(0,0)] [(1,4),(1,3),(1,1),(0,0)] (some ⟨la9,0,none⟩) (some ⟨w3.heap.size+1+1+1+1,0,none⟩) lc9 4 W4 (HA.out.loads.below HL4.out (nR _)) hsl (by decide) (by decide)).mono ?_;rintro e w4 ⟨rfl,hb4⟩;have HK4:=lH (HL4.out.trans (hb4.mono HL4.out.size));clear hWe hbe hsl hb4;rw[show decide (([(1,4),(1,3),(1,1),(0,0)]:List (Int×Int))= [(1,4),(1,3),(1,1),(0,0)])=true from by decide]
 go_wp2_with fail
 generalize hWe:w4.alloc (cL #[iN qi 2,iN qi 1,iN qi 1,iN qi 2] 3)=W5;have hbe:bX w4.heap.size w4 W5:=by subst hWe;exact(bR _ _).alloc (nR _) _
 have hsl:SlI W5 (some ⟨w4.heap.size,0,none⟩) [2,1,1,2]:=by subst hWe;exact sl4 (by go_simp) (by go_simp) (by go_simp) (by go_simp)
 have HL5:=lH (HK4.out.trans (hbe.mono HK4.out.size));refine(c38 [2,1,1,2] [2,1,1,2] (some ⟨ca,0,none⟩) (some ⟨w4.heap.size,0,none⟩) cc 4 W5 (HA.out.cheap.below HL5.out (nR _)) hsl (by decide) (by decide)).mono ?_;rintro e w5 ⟨rfl,hb4⟩;have HK5:=lH (HL5.out.trans (hb4.mono HL5.out.size));clear hWe hbe hsl hb4;rw[show decide (([2,1,1,2]:List Int)= [2,1,1,2])=true from by decide]
 go_wp2_with fail
 generalize hWe:w5.alloc (cL #[iN qi 0,iN qi 1,iN qi 0,iN qi 0] 3)=W6;have hbe:bX w5.heap.size w5 W6:=by subst hWe;exact(bR _ _).alloc (nR _) _
 have hsl:SlI W6 (some ⟨w5.heap.size,0,none⟩) [0,1,0,0]:=by subst hWe;exact sl4 (by go_simp) (by go_simp) (by go_simp) (by go_simp)
 have HL6:=lH (HK5.out.trans (hbe.mono HK5.out.size));refine(c38 [0,1,0,0] [0,1,0,0] (some ⟨sp,0,none⟩) (some ⟨w5.heap.size,0,none⟩) sc 4 W6 (HS.out.below HL6.out (nR _)) hsl (by decide) (by decide)).mono ?_;rintro e w6 ⟨rfl,hb4⟩;have HK6:=lH (HL6.out.trans (hb4.mono HL6.out.size));clear hWe hbe hsl hb4;rw[show decide (([0,1,0,0]:List Int)= [0,1,0,0])=true from by decide];have HP6:=lH (aoF HK6.out HP.out (nR _));have hp3:=aoF HK6.out HO.out (nR _);have HX:=lH (HX0.out.below HK6.out (nR _))
 go_wp2_with fail
 have hpg:=HP6.out;have H18:Hid (∀(W:wD) (n:Nat),bX w6.heap.size w6 W->W.cell? ⟨n,0,none⟩=some (iN qi 0)->W.cell? ⟨n,1,none⟩=some (iN qi 3)->W.cell? ⟨n,2,none⟩=some (iN qi 5)->W.cell? ⟨n,3,none⟩=some (iN qi 5)->cF tP 27 #[sL (some ⟨cb,0,none⟩) 2 scc,sL (some ⟨n,0,none⟩) 2 2] W fun e w'=>e= rT (.bool true)/\bX w6.heap.size w6 w'):=lH fun W n hW k0 k1 k2 k3=>by
  have hsl:SlB W (some ⟨n,0,none⟩) [(0,3),(5,5)]:=fun j x hx=>by
   match j,hx with
   | 0,hx=>cases hx;exact⟨_,0,rfl,k0,k1⟩
   | 1,hx=>cases hx;exact⟨_,0,rfl,k2,k3⟩
  have h:=c18 [(0,3),(5,5)] [(0,3),(5,5)] (some ⟨cb,0,none⟩) (some ⟨n,0,none⟩) scc 2 W (HX.out.below hW (nR _)) hsl (by decide) (by decide);refine h.mono ?_;rintro e w' ⟨rfl,hb⟩;exact⟨rfl,hW.trans (hb.mono hW.size)⟩
 have hz6:gb<w6.heap.size:=wBk _ _ hpg;have hz7:pb<w6.heap.size:=wBk _ _ hp3;have hstart:bX w6.heap.size w6 w6.drew:=(bR _ _).drew;have HK6':=HK6
 go_region_held3 (fun w'=>bX w6.heap.size w6 w'/\w'.cell? ⟨gb,3,none⟩=some (sL (some ⟨pb,0,none⟩) 3 pcc)/\w'.cell? ⟨pb,1*3+2,none⟩=some (sL (some ⟨cb,0,none⟩) 2 scc))
  (first
   |exact⟨hstart,hpg,hp3⟩
   |exact⟨hbel,aoF hbel hpg (nR _),aoF hbel hp3 (nR _)⟩
   | (go_split_ands;exact abQ (by assumption) (by assumption) (by assumption) hz6 hz7))
  (first
   | (go_simp;go_at_call 8;refine(EO _ _ _).mono ?_;rintro e w1 ⟨rfl,rfl⟩)
   | (go_simp;go_at_call 27;go_split_ands;(with_reducible refine(H18.out _ _ (by assumption) (by go_simp) (by go_simp) (by go_simp) (by go_simp)).mono ?_);rintro e w1 ⟨rfl,hbel⟩))
 go_split_ands;have Hfin:Hid (bX w6.heap.size w6 w1):=lH (by assumption);go_wp2;go_ret;exact⟨rfl,HK6.out.trans (Hfin.out.mono HK6.out.size)⟩
theorem abS {w:wD} {τ:Nat->Question->Nat} {d:Nat} (h:Vars w):Vars (w.tp τ d noJ):=h.kept (fC.2 (Kept.refl _ _))
theorem BL:(bQ exB 50).pairs[1]? =some ⟨1,2,[(0,3),(5,5)]⟩:=by
 have h1:((bQ exB 50).pairs[1]?).map (fun p=>(p.one,p.two,p.calls))=some (1,2,[(0,3),(5,5)]):=by decide+kernel
 cases e:(bQ exB 50).pairs[1]? with
 |none=>rw[e] at h1;cases h1
 |some p=>obtain⟨x,y,z⟩:=p;rw[e] at h1;cases h1;rfl
theorem LvA.kept {u u':wD} {ha la9 ca:Nat} (h:LvA u ha la9 ca) (hk:Kept u.heap.size u u'):LvA u' ha la9 ca:=⟨h.hub.kept hk,h.loads.kept hk,h.cheap.kept hk⟩
theorem FI:FB:=fun w hv=>by
 refine iK.mono (R:=Sat (mY w)) (Bh good Tryd.func5 (x:=lu) (by rfl) (R:=mY w) ?_) fun v w' h=>Bl (R:=mY w) (R':=mY w) (fun v w' τ d r=>⟨r.1,fC.1 r.2⟩) h;have hact:(⟨#[]++Array.replicate (Tryd.f5.ntmps-(#[]:Array vL).size) undef,[]⟩:Act)=⟨(List.replicate 302 undef).toArray,[]⟩:=by rw[Tryd.ntmps5];rfl
 rw[hact];simp only[List.replicate];refine pq (fun τ=>abv (w.tp τ 0 noJ) (abS hv)) ?_;rintro τ0 it a u ⟨V,b1,ha,hc,la9,lc9,ca,cc,t40,t41,t42,t43,t44,t45,t46,t47,t48,t49,t50,t51,t52,t53,t54,t55,t56,t57,t58,rfl,rfl,⟨B0,B1,B2,B3,B4,B5,B6⟩,hA,hk⟩;have hB:dL u b1 V exB:=⟨B0,B1,B2,B3,B4,B5,B6⟩;have hkw:Kept w.heap.size w u:=mD.1 (by have:=Kept.of_below hk;rwa [jO] at this);clear hk;have hS0:Sl (Fq b1 ha hc la9 lc9 ca cc t40 t41 t42 t43 t44 t45 t46 t47 t48 t49 t50 t51 t52 t53 t54 t55 t56 t57 t58) 302 [(9,iN qi 0),(8,iN qi 60),(7,sL (some ⟨ca,0,none⟩) 4 cc),(6,iN qi 0),(5,sL (some ⟨la9,0,none⟩) 4 lc9),(4,iN qi 0),(3,iN qi 80),(2,sL (some ⟨ha,0,none⟩) 4 hc),(1,pN (some ⟨b1,0,none⟩)),(0,.bool false)]:=⟨rfl,rfl,rfl,rfl,rfl,rfl,rfl,rfl,rfl,rfl,rfl,rfl,trivial⟩;generalize Fq b1 ha hc la9 lc9 ca cc t40 t41 t42 t43 t44 t45 t46 t47 t48 t49 t50 t51 t52 t53 t54 t55 t56 t57 t58=a at *;refine abB hB hS0 fun a u1 hk1 hS0=> ?_;replace hB:=hB.kept hk1;replace hA:=hA.kept hk1;replace hkw:=hkw.trans (hk1.mono hkw.size);clear hk1;refine abC hB hS0 fun a u1 hk1 hS0=> ?_;replace hB:=hB.kept hk1;replace hA:=hA.kept hk1;replace hkw:=hkw.trans (hk1.mono hkw.size);clear hk1;refine abD hB hS0 fun a u1 hk1 hS0=> ?_;replace hB:=hB.kept hk1;replace hA:=hA.kept hk1;replace hkw:=hkw.trans (hk1.mono hkw.size);clear hk1;rename_i u1;refine pq (fun τ=>abM b1 ha hc la9 lc9 ca cc _ _ V (hB.kept (u':=u1.tp τ 0 noJ) jD) hS0) ?_;rintro τ1 it a u4 ⟨sp,sc,gb,V',n,O,rfl,hS1,hS,hg3,hO,hb⟩;have hk4:Kept u1.heap.size u1 u4:=mD.1 (by have:=Kept.of_below hb;rwa [jO] at this);replace hB:=hB.kept hk4;replace hA:=hA.kept hk4;replace hkw:=hkw.trans (hk4.mono hkw.size);have hpa:=hO.pa 1 _ BL;obtain⟨_,_,scc,hp3⟩:=hO.pairs 1 _ BL;have hca:=hO.calls 1 _ 0 _ BL rfl;have hcb:=hO.calls 1 _ 1 _ BL rfl;rw[hpa,show exB.pairs.length=3 from by decide+kernel] at hg3;have hX:SlB u4 (some ⟨O.cb 1,0,none⟩) [(0,3),(5,5)]:=fun j x hx=>by
  match j,hx with
  | 0,hx=>cases hx;exact⟨_,0,rfl,hca.1,hca.2⟩
  | 1,hx=>cases hx;exact⟨_,0,rfl,hcb.1,hcb.2⟩
 refine abN hB hS1 fun a u5 hk5 hS2=> ?_;have hB:=hB.kept hk5;have hA:=hA.kept hk5;have hS:=hS.kept hk5;have hX:=hX.kept hk5;have hg3:=dV hk5 (nR _) hg3;have hp3:=dV hk5 (nR _) hp3;have hkw:=hkw.trans (hk5.mono hkw.size);refine Bg good Tryd.func5 fun τ=> ?_;have hk6:Kept u5.heap.size u5 (u5.tp τ 0 noJ):=jD;refine Code.wp_mono (fun e a u6 h=> ?_) (abR b1 ha hc la9 lc9 ca cc sp sc gb _ _ V _ _ _ _ (hB.kept hk6) (hA.kept hk6) (hS.kept hk6) (dV hk6 (nR _) hg3) (dV hk6 (nR _) hp3) (hX.kept hk6) hS2);have fin: ∀e,(e=Ending.returned (.bool true)/\bX (u5.tp τ 0 noJ).heap.size (u5.tp τ 0 noJ) u6)-> ∃v,e= rT v/\mY w v u6:=fun e ⟨h1,h2⟩=>⟨_,h1,rfl,rJ hkw h2⟩
 cases e with
 |normal=>obtain⟨h1,v,h2,h3⟩:=h;exact⟨h1,v,h2,fin _ h3⟩
 |ret=>obtain⟨h1,v,h2,h3⟩:=h;exact⟨h1,v,h2,fin _ h3⟩
 |panic chain=>exact⟨h.1,fin _ h.2⟩
 |exit id=>exact h
 |goto l=>exact h
 |outgrown=>exact fin _ h
theorem Oe {l T:Nat->Int}: ∀n i,fJ l T n i<0↔ ∀j,i<=j->j<i+n->l j<=T j
 | 0,i=>by simp only[fJ];exact⟨fun _ j h1 h2=>by omega,fun _=>by omega⟩
 |n+1,i=>by
  unfold fJ;have ih:=Oe (l:=l) (T:=T) n (i+1)
  split
  ·rename_i h;exact⟨fun hh=>by omega,fun hh=>by have:=hh i (nR _) (by omega);omega⟩
  ·rename_i h;rw[ih];refine⟨fun hh j h1 h2=> ?_,fun hh j h1 h2=>hh j (by omega) (by omega)⟩;by_cases e:j=i
   ·subst e;omega
   ·exact hh j (by omega) (by omega)
theorem vC (B:Bk) (T:Nat->Int) (most:Bool) (h:Nat):B.lackIn T most h<0↔ ∀j,j<B.spokes->B.inn T most h j<=T j:=by
 unfold Bk.lackIn Bk.lack;rw[Oe];exact⟨fun hh j hj=>hh j (Nat.zero_le _) (by omega),fun hh j _ hj=>hh j (by omega)⟩
theorem Og (B:Bk) (T:Nat->Int): ∀n i c,aQ B T n i c=1↔c=1/\ ∀h,i<=h->h<i+n->B.lackIn T false h<0/\B.lackIn T true h<0
 | 0,i,c=>by simp only[aQ];exact⟨fun h=>⟨h,fun _ _ _=>by omega⟩,fun h=>h.1⟩
 |n+1,i,c=>by
  unfold aQ;by_cases h1:0<=B.lackIn T false i
  ·rw[if_pos h1];exact⟨fun h=>by omega,fun h=>by have:=(h.2 i (nR _) (by omega)).1;omega⟩
  ·rw[if_neg h1,Og B T n (i+1)];by_cases h2:0<=B.lackIn T true i
   ·rw[if_pos h2];exact⟨fun h=>by omega,fun h=>by have:=(h.2 i (nR _) (by omega)).2;omega⟩
   ·rw[if_neg h2];refine⟨fun h=>⟨h.1,fun k a b=> ?_⟩,fun h=>⟨h.1,fun k a b=>h.2 k (by omega) (by omega)⟩⟩;by_cases e:k=i
    ·subst e;omega
    ·exact h.2 k (by omega) (by omega)
theorem Oh {st:List (Int×Int)} (hp: ∀x∈st,0<=x.2/\x.2<=99) (m:Nat): ∀n,m<=n->(bF st m).1<=(bF st n).1
  | 0,h=>by have:m=0:=by omega
            subst this;exact Int.le_refl _
  |n+1,h=>by
    by_cases e:m=n+1
    · subst e;exact Int.le_refl _
    · have ih:=Oh hp m n (by omega)
      have:=Bq hp (adv st ((n:Int)+1) (st.length-(bF st n).2) (bF st n).2)
      conv=>rhs;unfold bF
      dsimp only;omega
theorem abX {B:Bk} (hG:Good B) (i:Nat): ∀x∈((B.links[i]?).map (·.steps)).getD [],0<=x.2/\x.2<=99:=by
 cases e:B.links[i]? with
 |none=>intro x hx;simp at hx
 |some L=>exact Ez ((hG.links i L e).2.2.2)
theorem abY {B:Bk} (hG:Good B) (i:Nat) {s t:Int} (h:s<=t):bH B i s<=bH B i t:=by
 unfold bH;exact Oh (abX hG _) _ _ (by omega)
theorem abZ {B:Bk} (hG:Good B) {T T':Nat->Int} (h: ∀k,T k<=T' k): ∀n,fZ B T n<=fZ B T' n
 | 0=>Int.le_refl _
 |n+1=>by
  have:=abZ hG h n;have:=abY hG n (h n);unfold fZ;omega
structure iO (w:wD) (b:Nat) (xs:List Int):Prop where
 lt:b<w.heap.size
 sl:SlI w (some ⟨b,0,none⟩) xs
 free: ∀j,w.frozen? ⟨b,j,none⟩=false
theorem iO.set {w:wD} {b k:Nat} {xs:List Int} (h:iO w b xs) (hk:k<xs.length) (y:Int):iO (w.setCell ⟨b,k,none⟩ (iN qi y)) b (xs.set k y):=by
 refine⟨by rw[World.size_setCell];exact h.lt,fun i x hx=>⟨b,0,rfl, ?_⟩,fun j=>by rw[World.frozen?_setCell];exact h.free j⟩;rw[Nat.zero_add];by_cases e:i=k
 ·subst e;rw[List.getElem?_set_self hk] at hx
  cases hx
  obtain⟨_,_,e2,h0⟩:=h.sl i _ (lG hk)
  cases e2
  rw[Nat.zero_add] at h0;exact World.cell?_setCell_same _ _ _ h0
 ·rw[List.getElem?_set_ne (Ne.symm e)] at hx;obtain⟨_,_,e2,h0⟩:=h.sl i x hx
  cases e2
  rw[Nat.zero_add] at h0;rw[World.cell?_setCell_other _ _ _ _ (by intro e3;cases e3;exact e rfl)];exact h0
theorem SlI.far {w:wD} {b o:Nat} {xs:List Int} {sa:Option Addr} {v:vL} (h:SlI w sa xs) (hb: ∀b' o',sa=some ⟨b',o',none⟩->b'≠b):SlI (w.setCell ⟨b,o,none⟩ v) sa xs:=fun i x hx=>by
 obtain⟨b',o',e,h0⟩:=h i x hx;exact⟨b',o',e,by rw[World.cell?_setCell_far _ _ _ _ (Ne.symm (hb _ _ e))];exact h0⟩
end Go.Proofs.YtfiiffnbggnkfaaDoor
namespace Go
open Go.Conc
theorem ab2 {H:Type} {enc:TypeId×vL->H} {a:Assume} {C:Checked} {os:Os} {f:FuncId} {fn:Func} {s:ChangeSpec} {conds:List PathCond} {apart fresh handsOn again:Bool} {X:wD->Array vL->Prop}
  (hX: ∀(w w':wD) (args:Array vL),w.heap=w'.heap->X w args->X w' args) (own:ownKnob C.prog.godebug=none) (started:os.Started) (hfn:C.prog.funcs[f]? =some fn)
  (witness: ∃(w:wD) (tape:Tape) (i:Input),w.os=os/\(w.forCall tape i).Shaped C.prog/\i.vars= []/\Input.okWide C.prog (w.forCall tape i) .any w.heap.size f i/\
   ((s.pre enc C.prog fn conds apart (w.forCall tape i).memory i.args/\X (w.forCall tape i).memory i.args)/\sizedMet enc C.prog fn (OpenSpec.ofChange s) apart (w.forCall tape i).memory i.args)/\a.holds C.prog (lone (Frame.enter C.prog f i.args .normal) [] (w.forCall tape i)))
  (runs: ∀(W:wD) (base:Nat) (args:Array vL) (ds gs:List (DataW H)) (before:List MemPlace),
   (∀(j:Nat) t v,fn.params[j]? =some t->args[j]? =some v->Value.okWide C.prog W .any base t v)->
   DataW.Whole enc C.prog fn.params.toList s.vars apart W args.toList ds gs before->X W args->
   ∃M last o w' t',runNT C.prog (M+1) (solo (G (Frame.enter C.prog f args .normal) []) W) #[]=(.ended o w',t')/\runN C.prog M (solo (G (Frame.enter C.prog f args .normal) []) W)= .next last/\
    step C.prog last= .ended o w'/\Conc.Good C.prog (fun v W'=>s.post enc C.prog fn apart fresh handsOn again W args v W') last o w' t'):
  ReturnsInLeavingWide a C os f .any (fun w args=>(s.pre enc C.prog fn conds apart w args/\X w args)/\sizedMet enc C.prog fn (OpenSpec.ofChange s) apart w args) (s.post enc C.prog fn apart fresh handsOn again):=by
 refine returnsInLeavingWide_of_good own started witness ?_;intro w tape i _ _ _ hok hpre _;obtain⟨_,_,_,fn',hfn',_,_,_,_,hval⟩:=hok;have e:fn'=fn:=Option.some.inj (hfn'.symm.trans hfn);subst e;obtain⟨⟨⟨ds,gs,before,hw,_⟩,hx⟩,_⟩:=hpre;have hw':=DataW.Whole.of_heap (w':=w.forCall tape i) (by rfl) hw;obtain⟨M,last,o,w',t',h1,h2,h3,h4⟩:=runs (w.forCall tape i) w.heap.size i.args ds gs before hval hw' (hX _ _ _ (by rfl) hx);exact⟨M,last,o,w',t',h1,h2,h3,h4.mono fun v hp=>ChangeSpec.post_blind hp⟩
end Go
namespace Go.Proofs.YtfiiffnbggnkfaaDoor
open Go.RowKit Go.Rent Go.Tp Go.Conc Go.ChangeShapes Go.WideShapes Go.ChangeAt
theorem ab3:ownKnob tP.godebug=none:=by kernel_rfl
theorem Oj:laidOutB tP=true:=by kernel_rfl
theorem gl0:tP.globalNamed "baudot/rent.fewest" =some 0:=by kernel_rfl
theorem gl1:tP.globalNamed "baudot/rent.most" =some 1:=by kernel_rfl
theorem gl2:tP.globalNamed "baudot/rent.checks" =some 2:=by kernel_rfl
theorem gt0:(tP.globals[0]?).map (·.type)=some 95:=by kernel_rfl
theorem gt1:(tP.globals[1]?).map (·.type)=some 95:=by kernel_rfl
theorem gt2:(tP.globals[2]?).map (·.type)=some 126:=by kernel_rfl
abbrev vF {H:Type}:List (String×DataW H):= [("baudot/rent.checks",Rows.laid_baudot_rent_checks),("baudot/rent.fewest",Rows.laid_baudot_rent_fewest),("baudot/rent.most",Rows.laid_baudot_rent_most)]
theorem door_met (os:Os) (args:Array vL):laidMetH tP vF ((World.doorLaid tP 600 os).forCall (fun _ _=>0) ⟨#[],args,[]⟩).memory:=
 laidMetH_of_parts3 (fuel:=8) (laidMet_of_run' 8 (by kernel_rfl) (by kernel_rfl)) (by kernel_rfl) (by kernel_rfl)
theorem ab4 {W:wD} (h:laidMetH tP vF W):Vars W:=by
 obtain⟨g2,t2,cs2,f2,p2,hg2,ht2,hv2,hd2⟩:=h.funcs (n:= "baudot/rent.checks") (List.mem_cons_self ..);obtain⟨g0,t0,cs0,f0,p0,hg0,ht0,hv0,hd0⟩:=h.funcs (n:= "baudot/rent.fewest") (List.mem_cons_of_mem _ (List.mem_cons_self ..));obtain⟨g1,t1,cs1,f1,p1,hg1,ht1,hv1,hd1⟩:=h.funcs (n:= "baudot/rent.most") (List.mem_cons_of_mem _ (List.mem_cons_of_mem _ (List.mem_cons_self ..)));obtain rfl:=Option.some.inj (gl0.symm.trans hg0);obtain rfl:=Option.some.inj (gl1.symm.trans hg1);obtain rfl:=Option.some.inj (gl2.symm.trans hg2);obtain rfl:=Option.some.inj (gt0.symm.trans ht0);obtain rfl:=Option.some.inj (gt1.symm.trans ht1);obtain rfl:=Option.some.inj (gt2.symm.trans ht2);have st: ∀{cs:List vL} {fuel:Nat} {l:List UInt8} {q:List MemPlace},DataW.trod (funcToken tP) tP W 0 (fun _=>true) true fuel 95 cs=some (.agg [.held l],q)-> ∃v n q',cs= [v]/\DataW.trod (funcToken tP) tP W 0 (fun _=>true) true n 93 [v]=some (.held l,q'):=by
  intro cs fuel l q hd;obtain⟨xs,n,_,hx,hlen,hxl,hf⟩:=DataW.trod_struct Tryd.underlying95 hd;have c98:tP.cellsOf 95=1:=by kernel_rfl
  have c96:tP.cellsOf 93=1:=by kernel_rfl
  rw[c98] at hlen
  match cs,hlen with
  | [v],_=>
   have h0:=hf 0 _ rfl
   match xs,hxl,hx,h0 with
   | [x0],_,hx,h0=>
    simp only[Prod.mk.injEq,DataW.agg.injEq,List.map_cons,List.map_nil,List.cons.injEq,and_true] at hx;obtain⟨x0d,x0p⟩:=x0;obtain⟨e1,_⟩:=hx;simp only at e1;subst e1;have h1:DataW.trod (funcToken tP) tP W 0 (fun _=>true) true n 93 (([v].drop 0).take (tP.cellsOf 93))=some (.held l,x0p):=h0;rw[c96] at h1;exact⟨v,n,x0p,rfl,h1⟩
 obtain⟨v0,n0,q0,e0,r0⟩:=st hd0;obtain⟨v1,n1,q1,e1,r1⟩:=st hd1;have k0:=func_of_trod (f0:=116) Tryd.underlying93 (by kernel_rfl) r0;have k1:=func_of_trod (f0:=117) Tryd.underlying93 (by kernel_rfl) r1;subst k0 k1;obtain⟨xs,n,_,hx,hlen,hxl,hf⟩:=DataW.trod_array Tryd.underlying126 hd2;have Cb:tP.cellsOf 125=1:=by kernel_rfl
 have vM:tP.cellsOf 126=4:=by kernel_rfl
 rw[vM] at hlen;have cell: ∀{g:Nat} {n:String} {cs:Array vL} {k:Nat} {v:vL},tP.globalNamed n=some g->W.var? tP n=some cs->cs.toList[k]? =some v->W.cell? ⟨g,k,none⟩=some v:=fun hg hv hk=>by
  rw[World.var?_cell hg hv];simpa using hk
 generalize hl2:cs2.toList=l2 at *
 match l2,hlen,xs,hxl with
 | [a0,a1,a2,a3],_,[x0,x1,x2,x3],_=>
  have z0:=hf 0 (by decide);have z1:=hf 1 (by decide);have z2:=hf 2 (by decide);have z3:=hf 3 (by decide);rw[Cb] at z0 z1 z2 z3;simp only[Prod.mk.injEq] at hx;have hx1:=hx.1;simp only[DataW.funcsOut,DataW.funcsOutAll,DataW.agg.injEq,List.map_cons,List.map_nil,List.cons.injEq,and_true] at hx1;obtain⟨y0,y1,y2,y3⟩:=hx1;obtain⟨x0d,x0p⟩:=x0;obtain⟨x1d,x1p⟩:=x1;obtain⟨x2d,x2p⟩:=x2;obtain⟨x3d,x3p⟩:=x3;simp only at y0 y1 y2 y3;subst y0 y1 y2 y3;have w0:=func_of_trod (f0:=118) Tryd.underlying125 (by kernel_rfl) z0;have w1:=func_of_trod (f0:=119) Tryd.underlying125 (by kernel_rfl) z1;have w2:=func_of_trod (f0:=120) Tryd.underlying125 (by kernel_rfl) z2;have w3:=func_of_trod (f0:=121) Tryd.underlying125 (by kernel_rfl) z3;subst w0 w1 w2 w3;exact⟨⟨cell hg2 hv2 (by rw[hl2];rfl),cell hg2 hv2 (by rw[hl2];rfl),cell hg2 hv2 (by rw[hl2];rfl),cell hg2 hv2 (by rw[hl2];rfl)⟩,cell hg0 hv0 (by rw[e0];rfl),cell hg1 hv1 (by rw[e1];rfl),by
   have:=wBk _ _ (cell (k:=0) hg2 hv2 (by rw[hl2];rfl));have hs:tP.globals.size=3:=by kernel_rfl
   rw[hs];exact this⟩
theorem nV (W:wD) (a:Addr):(gy W).cell? a=W.cell? a:=by
 have:=jV (gy W) W.tape W.drawn (NU W) a;rw[Fv] at this;exact this.symm
theorem ab5 {W:wD} (h:Vars W):Vars (gy W):=
 ⟨⟨by rw[nV];exact h.v2.c0,by rw[nV];exact h.v2.c1,by rw[nV];exact h.v2.c2,by rw[nV];exact h.v2.c3⟩,by rw[nV];exact h.g0,by rw[nV];exact h.g1,by rw[Fz];exact h.gl⟩
theorem ab6 {W:wD} {V:BkV} (h:fH W V):fH (gy W) V:=by
 have r: ∀{o:Option Addr},bG W o->bG (gy W) o:=fun h a ha=>by
  obtain⟨c,t,z,e⟩:=h a ha;exact⟨c,t,z,abx e⟩
 exact⟨r h.ta,r h.la,r h.pa⟩
theorem SlB.of_cell {u w:wD} (hc: ∀a,u.cell? a=w.cell? a) {sa:Option Addr} {xs:List (Int×Int)} (h:SlB w sa xs):SlB u sa xs:=fun i x hx=>by obtain⟨b,o,e,h0,h1⟩:=h i x hx;exact⟨b,o,e,by rw[hc];exact h0,by rw[hc];exact h1⟩
theorem iw.of_cell {u w:wD} (hc: ∀a,u.cell? a=w.cell? a) {V:BkV} {B:Bk} (h:iw w V B):iw u V B:=
 ⟨fun i x hx=>by obtain⟨b,o,e,h0⟩:=h.towns i x hx;exact⟨b,o,e,by rw[hc];exact h0⟩,fun i L hL=>by
  obtain⟨b,o,sa,sc,h1,h2,h3,h4,h5,h6⟩:=h.links i L hL;exact⟨b,o,sa,sc,h1,by rw[hc];exact h2,by rw[hc];exact h3,by rw[hc];exact h4,h5.of_cell hc,h6⟩,fun i L hL=>by
  obtain⟨b,o,sa,sc,h1,h2,h3,h4,h5,h6⟩:=h.pairs i L hL;exact⟨b,o,sa,sc,h1,by rw[hc];exact h2,by rw[hc];exact h3,by rw[hc];exact h4,h5.of_cell hc,h6⟩,h.tc,h.nl,h.np,h.sz,h.pc⟩
theorem ab7 {W w:wD} {τ:Nat->Question->Nat} {d d':Nat} {j:aW} (hj: ∀n,n<(gy W).heap.size->j n=rH W n) (hk:Kept (gy W).heap.size (gy W) (w.tp τ d noJ)):bX W.heap.size W (w.tp W.tape d' j):=by
 have hW:W=(gy W).tp W.tape W.drawn (rH W):=(Fv W).symm;refine⟨?_,rfl, ?_, ?_,fun k hlt=> ?_⟩
 ·have:=hk.os;rw[CG] at this ⊢;rw[this];rfl
 ·have:=hk.output;rw[CJ] at this ⊢;rw[this];rfl
 ·have:=hk.size;rw[gJ] at this;rw[gJ,<-Fz W];exact this
 ·have hlt':k<(gy W).heap.size:=by rw[Fz];exact hlt
  have hb:=hk.block k hlt';rw[oG] at hb
  conv=>rhs;rw[hW]
  rw[dX,dX,hb]
  congr 1
  funext o
  unfold fQ;rw[hj k hlt']
theorem ab8 {H:Type} {enc:TypeId×vL->H} {fn:Func} {s:ChangeSpec} {W w':wD} {args:Array vL} {ds:List (DataW H)} {ps:List MemPlace} (hrt:fn.resultTypes= #[4]) (hW:DataW.Whole enc tP fn.params.toList s.vars false W args.toList ds [] ps)
  (hargs: ∀W':wD,bX W.heap.size W W'-> ∃pa,DataW.TrodAll enc tP W' 0 (fun b=>decide (b<W.heap.size)) true fn.params.toList args.toList ds pa)
  (hsv:s.vars= []) (hsp:s.fn H (ds++ [])={results:= [.lit (.bool true)],args:=ds}) (hb:bX W.heap.size W w'):s.post enc tP fn false true false false W args (.bool true) w':=by
 obtain⟨pa,ha⟩:=hargs w' hb;refine⟨ds,[],ps,[],pa,[],hW, ?_, ?_, ?_,hb.frame _,fun h=>by cases h⟩
 ·rw[hsp,hrt];exact trodAll_mk1 (shut_bool Tryd.underlying4 true)
 ·rw[hsp];exact ha
 ·rw[hsv,hsp];rfl
end Go.Proofs.YtfiiffnbggnkfaaDoor
namespace Go.Proofs.YtfiiffnbggnkfaaDoor
open Go.RowKit Go.Rent Go.Tp Go.Conc
theorem iw.tp {w:wD} {V:BkV} {B:Bk} {τ:Nat->Question->Nat} {d:Nat} (h:iw w V B):iw (w.tp τ d noJ) V B:=
 ⟨h.towns.tp,fun i L hL=>by
  obtain⟨b,o,sa,sc,h1,h2,h3,h4,h5,h6⟩:=h.links i L hL;exact⟨b,o,sa,sc,h1,by rw[bV];exact h2,by rw[bV];exact h3,by rw[bV];exact h4,h5.tp,h6⟩,fun i L hL=>by
  obtain⟨b,o,sa,sc,h1,h2,h3,h4,h5,h6⟩:=h.pairs i L hL;exact⟨b,o,sa,sc,h1,by rw[bV];exact h2,by rw[bV];exact h3,by rw[bV];exact h4,h5.tp,h6⟩,h.tc,h.nl,h.np,h.sz,h.pc⟩
theorem SlH.kept {w w':wD} {sa:Option Addr} {xs:List Int} (h:SlH w sa xs) (hk:Kept w.heap.size w w'):SlH w' sa xs:=by
 have:=(h.below hk.below (nR _)).tp (τ:=w'.tape) (d:=w'.drawn);rwa [dS,dh] at this
theorem ab9 {B:Bk} (h:oO B=true):dP B=false/\B.alarm=0:=by
 unfold oO at h;simpa using h
theorem acd {w u:wD} {b1:Nat} {V:BkV} {B:Bk} (hs:iw w V B) (hr:fH w V) (hv:Vars w) (hg:dP B=false) (hk:Kept w.heap.size w u)
  (hc:u.cell? ⟨b1,0,none⟩=some (iN qi B.hours)/\u.cell? ⟨b1,1,none⟩=some (sL V.ta B.towns.length V.tc)/\u.cell? ⟨b1,2,none⟩=some (sL V.la B.links.length V.lc)/\u.cell? ⟨b1,3,none⟩=some (sL V.pa B.pairs.length V.pc)):dL u b1 V B:=
 ⟨hc.1,hc.2.1,hc.2.2.1,hc.2.2.2,(hs.in hg).1.kept hk,hr.kept hk,hv.kept hk⟩
theorem vG {B:Bk} {xs:List Int} (ha:B.alarm=0) (hl:xs.length=B.links.length) (hb:dN xs=false):aH B xs true=0:=by
 unfold aH;rw[if_pos ha,if_pos hl,hb];rfl
theorem iO.kept {w w':wD} {b:Nat} {xs:List Int} (h:iO w b xs) (hk:Kept w.heap.size w w'):iO w' b xs:=
 ⟨nL h.lt hk.size,h.sl.kept hk,fun j=>(hk.frozen (p:=⟨b,j,none⟩) h.lt).trans (h.free j)⟩
theorem iO.below {w w':wD} {b:Nat} {xs:List Int} (h:iO w b xs) (hb:bX w.heap.size w w'):iO w' b xs:=h.kept (Kept.of_below hb)
theorem FM {ops:Array Oper} {a:Act} {o:Oper} {j dd:Nat} {b:Bool} (hg:o.guard=some (j,b)) (hd:(ops[j]?.bind fun x=>x.dst)=some dd) (hlt:dd<a.tmps.size) (h:a.tmps[dd]?.getD undef= .bool b):Region.wanted o (yielded ops a.tmps)=true:=by
 unfold Region.wanted yielded;rw[hg];simp only[hd,Option.bind_some];rw[Array.getElem?_eq_getElem hlt] at h ⊢;simp only[Option.getD_some] at h;rw[h];simp
theorem SlH.of_cell {u w:wD} (hc: ∀a,u.cell? a=w.cell? a) {sa:Option Addr} {xs:List Int} (h:SlH w sa xs):SlH u sa xs:=fun i x hx=>by obtain⟨b,o,e,h0⟩:=h i x hx;exact⟨b,o,e,by rw[hc];exact h0⟩
theorem aco (Lk:Looks) {p:Pinned} {s:OpenSpec} {c:OpenClaim} (kinds:List LaidKind) (tests:Bool) (har:Bool×String) (lk:Bool)
  (hc:c.holds p s) (hw:c.wfByText s=true) (htie:c.laidByTextAt Lk p kinds tests) (hst:c.start= .entering) (hnb:c.noBlocks=false/\c.again=false) (hm:p.checked.prog.mainIs=some (har.1,har.2.toList)) (hn:(!har.1&&har.2.isEmpty&& !lk)=false)
  (hl: ∀f fn,p.checked.prog.funcNamed c.func=some f->p.checked.prog.funcs[f]? =some fn->lk=p.checked.prog.looks []/\ ∀(j:Nat) t,fn.params[j]? =some t->p.checked.prog.wantsStandIn t=false) (hg:true=c.goesBy p.checked.prog):
  Claim7.holds p (.plain s) {stood:={row:=c,standIns:= [],harness:=har,looks:=lk},kinds:= [],laidByText:=true,laidKinds:=kinds,laidTests:=tests,laidLooks:=Lk,goes:=true}:=by
 have h6:Claim7.isSixth {stood:={row:=c,standIns:= [],harness:=har,looks:=lk},kinds:= []}=false:=by simpa[Claim7.isSixth] using hn
 exact⟨Claim7.tied_new_at Lk kinds tests (Claim7.new_of_sixth hc har lk hst hnb hm h6 hl) hw,(fun D hD=>by cases hD),htie,(fun h=>by cases h),hg⟩
theorem acA {X:wD->Prop} (hX: ∀w w',X w->Kept w.heap.size w w'->X w') {w:wD} {τ:Nat->Question->Nat} {d:Nat} (h:X (w.tp τ d noJ)):X w:=by
 have:=hX _ _ h (jD (τ:=w.tape) (d:=w.drawn));rwa [dS,dh] at this
theorem acs {g:FuncId} {args:Array vL} {w:wD} {X:vL->wD->Prop} (hX: ∀v w w',X v w->Kept w.heap.size w w'->X v w') (h: ∀τ,cF tP g args (w.tp τ 0 noJ) fun e w'=> ∃v,e= rT v/\X v w'/\bX (w.tp τ 0 noJ).heap.size (w.tp τ 0 noJ) w'):
  iK tP g args w fun v w'=>X v w'/\Kept w.heap.size w w':=
 Ei good (R:=fun v w'=>X v w'/\Kept w.heap.size w w') (fun v _ _ _ ⟨a,b⟩=>⟨acA (X:=X v) (hX v) a,fC.1 b⟩) fun τ=>(h τ).mono fun _ _ ⟨v,e1,x,hb⟩=>⟨v,e1,x,rJ (Kept.refl _ _) hb⟩
section
variable {u:wD} {b1:Nat} {V:BkV} {B:Bk} {xs ys:List Int} {xa ya:Option Addr} {xc yc:Nat}
end
section
variable {f:FuncId} {N d s t:Nat} {a:Act} {w:wD} {l:List (Nat×vL)} {ops:Array Oper} {i:Nat} {rest:List Nat} {kk:List Item} {R:vL->wD->Prop} {o:Oper}
theorem ac1 {k:Nat} (hS:Sl a N l) (hk:k<=1000000) (h: ∀a',Sl a' N ((d,iN qi ((k+1 :Nat):Int))::l)->GL tP f (.inRegion ops rest::kk) R a' w)
  (ho:ops[i]? =some o:=by rfl) (hw:Region.wanted o (yielded ops a.tmps)=true:=by rfl) (hdst:o.dst=some d:=by rfl) (hd:d<N:=by decide) (hn:(l.map (·.1)).contains d=false:=by rfl) (hp:o.op= .binOp .add 3 (.tmp s) (.const (iN qi 1)) 3:=by rfl) (hs:a.tmps[s]?.getD undef= iN qi (k:Int):=by have h:=(‹Sl _ _ _›).2.2;simp only[SlA] at h;simp only[h]):GL tP f (.inRegion ops (i::rest)::kk) R a w:=vg hS ho hw hdst hd hn (fun τ=>by
   have hw1:IntKind.wrap qi ((k:Int)+1)=(k:Int)+1:=IntWalk.i64_in _ (by omega);have hk1:((k+1 :Nat):Int)=(k:Int)+1:=by omega
   rw[hk1];obtain⟨dd,oo,ty,po,af,gu⟩:=o;simp only at hp;subst hp;go_simp) h
theorem ac2 {x y:Code} (e:x=y) (h:GL tP f (.code y::kk) R a w):GL tP f (.code x::kk) R a w:=e▸h
end
section
variable {f:FuncId} {ops:Array Oper} {kk:List Item} {R:vL->wD->Prop}
theorem acD {w u x:wD} (h:Kept w.heap.size w u) (k:Kept u.heap.size u x):Kept w.heap.size w x:=h.trans (k.mono h.size)
def YG (ops:Array Oper) (o:Oper) (v:vL) (a:Act) (w:wD):Prop:=
 (Region.wanted o (yielded ops a.tmps)=true/\ ∀u,Kept w.heap.size w u->(execOp a.eval o).run tP u= .ok (.value v) u)\/(Region.wanted o (yielded ops a.tmps)=false/\v=undef)
theorem YG.kept {o:Oper} {v:vL} {a:Act} {w w':wD} (h:YG ops o v a w) (hk:Kept w.heap.size w w'):YG ops o v a w':=by
 rcases h with ⟨h1,h2⟩ |h
 ·exact .inl ⟨h1,fun u hu=>h2 u (acD hk hu)⟩
 ·exact .inr h
def acv (K:vL->wD->Prop) (w:wD) (m:Sem Next):Prop:=
 (∃v,(∀τ,m.run tP (w.tp τ 0 noJ)= .ok (.value v) (w.tp τ 0 noJ))/\K v w)\/
 (∃S:vL->wD->Prop,(∀τ,∃v w',m.run tP (w.tp τ 0 noJ)= .ok (.value v) w'/\S v w')/\ ∀v w',S v w'->Kept w.heap.size w w'/\K v w')\/
 (∃g args R1,(∀u,m.run tP u= .ok (.enter g args) u)/\iK tP g args w R1/\ ∀v w',R1 v w'->Kept w.heap.size w w'/\K v w')
theorem acv.mono {w:wD} {m:Sem Next} {K K':vL->wD->Prop} (h: ∀v w',Kept w.heap.size w w'->K v w'->K' v w') (hh:acv K w m):acv K' w m:=by
 rcases hh with ⟨v,h1,h2⟩ |⟨S,h1,h2⟩ |⟨g,args,R1,h1,h2,h3⟩
 ·exact .inl ⟨v,h1,h v w (Kept.refl _ _) h2⟩
 ·exact .inr (.inl ⟨S,h1,fun v w' hv=>⟨(h2 v w' hv).1,h _ _ (h2 v w' hv).1 (h2 v w' hv).2⟩⟩)
 ·exact .inr (.inr ⟨g,args,R1,h1,h2,fun v w' hv=>⟨(h3 v w' hv).1,h _ _ (h3 v w' hv).1 (h3 v w' hv).2⟩⟩)
def OpG (ops:Array Oper) (i:Nat) (K:Act->wD->Prop) (a:Act) (w:wD):Prop:=
 match ops[i]? with
 |none=>False
 |some o=>if Region.wanted o (yielded ops a.tmps) then acv (fun v w'=>K (a.put o.dst v) w') w (execOp a.eval o) else K (a.put o.dst undef) w
theorem OpG.mono {i:Nat} {a:Act} {w:wD} {K K':Act->wD->Prop} (h: ∀a w,K a w->K' a w) (hh:OpG ops i K a w):OpG ops i K' a w:=by
 unfold OpG at *
 split
 ·simp_all
 ·rename_i o ho;simp only[ho] at hh
  split
  ·rename_i hw;simp only[hw,if_true] at hh;exact hh.mono fun _ _ _=>h _ _
  ·rename_i hw;simp only[hw] at hh;exact h _ _ hh
end
section
variable {f:FuncId} {N n d s t:Nat} {a:Act} {w:wD} {l:List (Nat×vL)} {ops:Array Oper} {listed:Array Bool} {i:Nat} {kk:List Item} {R:vL->wD->Prop} {o:Oper}
end
theorem bI.kept {w w':wD} {n:Nat} {V:BkV} {B:Bk} {O:qZ} (h:bI w n V B O) (hk:Kept w.heap.size w w'):bI w' n V B O:=by
 have c: ∀{b o:Nat} {v:vL},w.cell? ⟨b,o,none⟩=some v->w'.cell? ⟨b,o,none⟩=some v:=fun h=>dV hk (nR _) h;have hrp:bG w' V.pa:=fun a e=>by
  obtain⟨x,t,z,h0⟩:=h.rp a e;exact⟨x,t,z,(hk.block _ (Array.getElem?_eq_some_iff.1 h0).1).trans h0⟩
 refine⟨h.ta,h.la,h.pa,h.pc,hrp,h.tc,fun i t ht=>c (h.towns i t ht),fun i L hL=> ?_,fun i L k s hL hs=> ?_,fun i p hp=> ?_,fun i p k x hp hx=> ?_,fun i p hp=> ?_,h.dis,h.lo⟩
 ·obtain⟨h0,h1,sc,h2⟩:=h.links i L hL;exact⟨c h0,c h1,sc,c h2⟩
 ·exact⟨c (h.steps i L k s hL hs).1,c (h.steps i L k s hL hs).2⟩
 ·obtain⟨h0,h1,sc,h2⟩:=h.pairs i p hp;exact⟨c h0,c h1,sc,c h2⟩
 ·exact⟨c (h.calls i p k x hp hx).1,c (h.calls i p k x hp hx).2⟩
 ·have:=h.free i p hp;exact⟨⟨nL this.1.1 hk.size,this.1.2⟩,fun j=>by rw[hk.frozen (p:=⟨_,j,none⟩) this.1.1];exact this.2 j⟩
structure afY (w:wD) (b:Nat) (V:BkV) (B:Bk):Prop where
 c0:w.cell? ⟨b,0,none⟩=some (iN qi B.hours)
 c1:w.cell? ⟨b,1,none⟩=some (sL V.ta B.towns.length V.tc)
 c2:w.cell? ⟨b,2,none⟩=some (sL V.la B.links.length V.lc)
 c3:w.cell? ⟨b,3,none⟩=some (sL V.pa B.pairs.length V.pc)
 lt:b<w.heap.size
 fr: ∀j,w.frozen? ⟨b,j,none⟩=false
theorem afY.kept {w w':wD} {b:Nat} {V:BkV} {B:Bk} (h:afY w b V B) (hk:Kept w.heap.size w w'):afY w' b V B:=
 ⟨dV hk (nR _) h.c0,dV hk (nR _) h.c1,dV hk (nR _) h.c2,dV hk (nR _) h.c3,nL h.lt hk.size,fun j=>by rw[hk.frozen (p:=⟨b,j,none⟩) h.lt];exact h.fr j⟩
section
variable {f:FuncId} {N d s t:Nat} {a:Act} {w:wD} {l:List (Nat×vL)} {ops:Array Oper} {i j:Nat} {rest:List Nat} {kk:List Item} {R:vL->wD->Prop} {o o2:Oper}
end
section
variable {P:Program} {ops:Array Oper} {Q:Exit->Act->wD->Prop} {z:Nat}
def Ywo (P:Program) (ops:Array Oper) (o:Oper) (v:vL) (a:Act) (w:wD):Prop:=
 (Region.wanted o (yielded ops a.tmps)=true/\(execOp a.eval o).run P w= .ok (.value v) w)\/(Region.wanted o (yielded ops a.tmps)=false/\v=undef)
theorem Ywo.wpOp {i:Nat} {o:Oper} {v:vL} {a:Act} {w:wD} (hi:ops[i]? =some o) (hy:Ywo P ops o v a w) {K:Act->wD->Prop} (h:K (a.put o.dst v) w):wpOp P ops Q i K a w:=by
 unfold Go.wpOp;simp only[hi]
 rcases hy with ⟨hw,hv⟩ |⟨hw,rfl⟩
 ·simp only[hw,if_true,Oper.wp,hv,Oper.upon];exact .inl h
 ·simp only[hw,Bool.false_eq_true,if_false];exact h
end
end Go.Proofs.YtfiiffnbggnkfaaDoor
