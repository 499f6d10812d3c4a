/- A part of the proof of a law; no conditions of its own. -/
import Derived.Test.YtfiiffnbggnkfaaDoorAv21
open Go renaming Addr→aD, Value→vL, World→wD
open Go.RowKit renaming Below→bX
open Go.IntKind renaming i64→qi
open Go.Value renaming int→iN, slice→sL, pointer→pN
open Go.Ending renaming returned→rT
set_option maxRecDepth 100000
open Go renaming undef→ud
open Nat renaming le_refl→nR
open Go.Lib renaming hid→lH
open Go.RowKit.Below renaming refl→bR
open Go.Proofs.Tryd renaming prog→tP
open List renaming getElem?_eq_getElem→lG
open List renaming getElem?_eq_some_iff→lS
open Go.World renaming cell?_setCell_other→wO
open Go.World renaming cell?_setCell_far→wF
set_option maxHeartbeats 4000000
namespace Go.Proofs.YtfiiffnbggnkfaaDoor
open Go.RowKit Go.Rent Go.Tp Go.Conc
def jS (B:Bk) (T:Nat->Int) (h k:Nat):List (Int×Int):=(List.range k).map fun j=>(B.inn T false h j,B.inn T true h j)
theorem aav (B:Bk) (T:Nat->Int) (h k:Nat):jS B T h (k+1)=jS B T h k++ [(B.inn T false h k,B.inn T true h k)]:=by simp[jS,List.range_succ]
theorem aaw (l:List (Int×Int)) (x:Int×Int):duo (l++ [x])=duo l++ [iN qi x.1,iN qi x.2]:=by
 induction l with
 |nil=>rfl
 |cons y l ih=>simp[duo,ih]
def aax (w:wD) (B:Bk) (xs:List Int) (n:Int) (e:Ending) (w':wD):Prop:=
 (aH B xs (bP B n)=0-> ∃g cap,e= rT (.tuple #[sL (some ⟨g,0,none⟩) B.links.length cap,iN qi 0])/\SlB w' (some ⟨g,0,none⟩) (jS B (trk xs) n.toNat B.links.length)/\w.heap.size<=g)/\
 (aH B xs (bP B n)≠0->e= rT (.tuple #[sL none 0 0,iN qi (aH B xs (bP B n))]))/\bX w.heap.size w w'
theorem aay {w:wD} {b:Nat} {x y:Int} (h0:w.cell? ⟨b,0,none⟩=some (iN qi x)) (h1:w.cell? ⟨b,1,none⟩=some (iN qi y)): ∀(j:Nat) (u:vL),([iN qi x,iN qi y]:List vL)[j]? =some u->w.cell? ((⟨b,0,none⟩:aD).add j)=some u:=fun j u hu=>by
 match j,hu with
 | 0,hu=>cases hu;simpa[Addr.add] using h0
 | 1,hu=>cases hu;simpa[Addr.add] using h1
theorem aaz {B:Bk} {xs:List Int} {n:Int} (h:aH B xs (bP B n)=0):bP B n=true/\aH B xs true=0:=by
 cases e:bP B n with
 |true=>rw[e] at h;exact⟨rfl,h⟩
 |false=>
  rw[e] at h;unfold aH at h
  split at h
  ·split at h
   ·split at h
    ·cases h
    ·simp at h
   ·cases h
  ·contradiction
theorem aaA (V:BkV) (B:Bk) (xs:List Int) (tb tofs xc h:Nat) (w:wD) (hs:aB w V B) (hv:Vars w) (hx:SlI w (some ⟨tb,tofs,none⟩) xs) (hxl:xs.length=B.links.length) (hG:Good B) (hT:bK w tb tofs B.links.length (trk xs)) (hh:(h:Int)<B.hours) (hok:aH B xs (bP B (h:Int))=0):
  Calls tP 14 #[V.val B,sL (some ⟨tb,tofs,none⟩) B.links.length xc,iN qi (h:Int)] w fun e w'=> ∃g cap,e= rT (.tuple #[sL (some ⟨g,0,none⟩) B.links.length cap,iN qi 0])/\SlB w' (some ⟨g,0,none⟩) (jS B (trk xs) h B.links.length)/\w.heap.size<=g/\bX w.heap.size w w':=by
 obtain⟨ta,la,pa,tc,lc,pc⟩:=V;have hl1:=hG.fine.links;have ht1:=hG.fine.towns;unfold Bk.spokes at hl1;have hres:bU ⟨ta,la,pa,tc,lc,pc⟩ B (aH B xs (bP B (h:Int)))= .tuple #[.agg #[iN qi B.hours,sL ta B.towns.length tc,sL la B.links.length lc,sL pa B.pairs.length pc],iN qi 0]:=by rw[hok];rfl
 have Hs:=lH hs;have Hv:=lH hv;have Hx:=lH hx;have HT:=lH hT;have HG:=lH hG;have Hxl:=lH hxl;have Hres:=lH hres;have Hh:=lH hh;clear hs hv hx hT hG hok hres hh hxl;go_enter Tryd.func14,Tryd.ntmps14
 go_wp2_with fail
 generalize hWd:w.alloc (.cells #[iN qi B.hours,sL ta B.towns.length tc,sL la B.links.length lc,sL pa B.pairs.length pc] 26)=W;have HBW:Hid (bX w.heap.size w W):=lH (by subst hWd;exact(bR _ _).alloc (nR _) _);have k0:W.cell? ⟨w.heap.size,0,none⟩=some (iN qi B.hours):=by subst hWd;go_simp
 have k1:W.cell? ⟨w.heap.size,1,none⟩=some (sL ta B.towns.length tc):=by subst hWd;go_simp
 have k2:W.cell? ⟨w.heap.size,2,none⟩=some (sL la B.links.length lc):=by subst hWd;go_simp
 have k3:W.cell? ⟨w.heap.size,3,none⟩=some (sL pa B.pairs.length pc):=by subst hWd;go_simp
 clear hWd;have hr1:=Ns ta la pa tc lc pc B xs (some ⟨tb,tofs,none⟩) xc (h:Int) w W (BkV.val ⟨ta,la,pa,tc,lc,pc⟩ B) Hs.out Hv.out Hx.out (by rw[Hxl.out];omega) HBW k0 k1 k2 k3 B.hours ta la pa tc lc pc B.towns.length B.links.length B.pairs.length 0 Hres.out;unfold LdP at hr1;rw[Hxl.out] at hr1;refine Code.wp_mono ?_ hr1;clear hr1;rintro e a w' hq
 cases e with
 |normal=>
  obtain⟨b8,rfl,hb8,hbel,hrow⟩:=hq;have Hb8:=lH (And.intro hb8 (And.intro hbel hrow));have j2:=aoF hbel k2 (nR _);have HBw':Hid (bX w.heap.size w w'):=lH (HBW.out.trans (hbel.mono HBW.out.size));clear k0 k1 k2 k3 hb8 hbel hrow
  go_wp2_with fail
  have hrow:=Hb8.out.2.2;refine Code.wp_mono ?_ (aal ⟨ta,la,pa,tc,lc,pc⟩ B HG.out.fine h tb tofs xc b8 (trk xs) w' (Hs.out.at.below HBw'.out (nR _)) (HT.out.below HBw'.out (nR _)) Hh.out
   _ _ _ _ _ _ _ _ _ _ _ _ _ _ _ _ _ _ _ hrow.c0 hrow.c1 hrow.c2 hrow.c3 (aoF HBw'.out Hv.out.g0 (nR _)) (aoF HBw'.out Hv.out.g1 (nR _)))
  rintro e a w2 hq2
  cases e with
  |normal=>
   obtain⟨b10,b11,rfl,hb2,hlo,hhi⟩:=hq2;have HB2:Hid (bX w.heap.size w w2):=lH (HBw'.out.trans (hb2.mono HBw'.out.size));have i2:=aoF hb2 j2 (nR _);have HLo:=lH hlo;have HHi:=lH hhi;clear hb2 hlo hhi j2 hrow;obtain⟨i0,hi,hz0,hz1,hz2⟩:=info_parts MG
   go_wp2_with fail
   go_loopw [12,39] (fun v i wr=> ∃k:Nat,k<=B.links.length/\i= iN qi (k:Int)/\wr.ownsRow w2.heap.size 33 2 v k (duo (jS B (trk xs) h k))/\bX w2.heap.size w2 wr) (fun _ i _=>B.links.length-(intOf i).toNat)
   case atStart=>exact⟨0,Nat.zero_le _,rfl,World.ownsRow_nil _ _ _ _,bR _ _⟩
   case round=>
    obtain⟨k,hk,rfl,hown,hb⟩:=hrel;have Hown:=lH hown;have Hb:=lH hb;clear hown hb;by_cases hlt:k<B.links.length
    ·have hk6:k<6:=by omega
     have q0:=aoF Hb.out (HLo.out k hk6) (nR _);have q1:=aoF Hb.out (HHi.out k hk6) (nR _);have hlt':(k:Int)<(B.links.length:Int):=by omega
     have hk6':(k:Int)<6:=by omega
     have hk0:(0 :Int)<=(k:Int):=Int.natCast_nonneg _;have hsn:=aaw (jS B (trk xs) h k) (B.inn (trk xs) false h k,B.inn (trk xs) true h k);rw[<-aav] at hsn;have Hsn:=lH hsn;have H0:=lH (HLo.out k hk6);have H00:=lH (HHi.out k hk6);clear hsn;simp only at Hsn;generalize B.inn (trk xs) false h k=lo at *;generalize B.inn (trk xs) true h k=up at *;have HA:Hid (((wr.alloc (.cells #[iN qi lo,iN qi up] 33)).drew).ownsRow w2.heap.size 33 2 u12 k (duo (jS B (trk xs) h k))):=lH (Hown.out.alloc _);have HBA:Hid (bX w2.heap.size w2 ((wr.alloc (.cells #[iN qi lo,iN qi up] 33)).drew)):=lH (Hb.out.alloc Hb.out.size _).drew;have HN:Hid (∀(j:Nat) (u:vL),([iN qi lo,iN qi up]:List vL)[j]? =some u->((wr.alloc (.cells #[iN qi lo,iN qi up] 33)).drew).cell? ((⟨wr.heap.size,0,none⟩:aD).add j)=some u):=lH (aay (by go_simp) (by go_simp));have H1c:Hid (∀u∈([iN qi lo,iN qi up]:List vL),u.oneCell'=true):=lH (by simp[Value.oneCell']);have Hb63:Hid (k+1<=maxLen):=lH (by unfold maxLen;omega);have Hbb:Hid ((k+1)*16<=140737488355328):=lH (by omega);have HC:Hid (∀u:wD,bX w2.heap.size w2 u->u.cell? ⟨b10,k,none⟩=some (iN qi lo)/\u.cell? ⟨b11,k,none⟩=some (iN qi up)):=lH fun u hu=>⟨aoF hu H0.out (nR _),aoF hu H00.out (nR _)⟩
     go_wp2_with fail
     go_region_held3 (fun w'=>w'.cell? ⟨b10,k,none⟩=some (iN qi lo)/\w'.cell? ⟨b11,k,none⟩=some (iN qi up))
      (first
       |exact⟨q0,q1⟩
       |exact HC.out _ HBA.out
       |exact HC.out _ hb3.out)
      (first
       | ((refine step_append_lies _ (by rfl) _ _ 27 (by rfl) w2.heap.size 33 i0 (.agg #[iN qi 0,iN qi 0]) 2 16 Tryd.underlying27 hi hz0 hz1 hz2 (by rfl) (by decide) u12 k (duo (jS B (trk xs) h k)) (by rfl) HA.out ⟨wr.heap.size,0,none⟩ 1 1 [iN qi lo,iN qi up] (by rfl) (by rfl) HN.out H1c.out (by decide) Hb63.out Hbb.out HBA.out.size _ rfl ?_);intro g2 cap2 w3 hown2 hgrow hat hltt;have hb3:Hid (bX w2.heap.size w2 w3):=lH (HBA.out.grown hgrow HBA.out.size (fun j hj=>(HA.out.lt j hj).1))))
     rw[<-Hsn.out] at hown2;go_wp2;go_roundw
     case rel=>exact⟨k+1,by omega,by go_num,hown2,hb3.out⟩
     case measure=>simp[intOf];omega
    ·have hke:k=B.links.length:=by omega
     subst hke;obtain⟨g,cap,e12,hg,_,hcell,_,_,_⟩:=ru Hown.out (by omega);subst e12;have HF:Hid (SlB wr (some ⟨g,0,none⟩) (jS B (trk xs) h B.links.length)/\w2.heap.size<=g/\bX w.heap.size w wr):=lH ⟨fun i x hi=>⟨g,0,rfl,by rw[Nat.zero_add];exact hcell _ _ (oV _ i x hi).1,by rw[Nat.zero_add];exact hcell _ _ (oV _ i x hi).2⟩,hg,HB2.out.trans (Hb.out.mono HB2.out.size)⟩;have Hz:=lH HB2.out.size;clear hcell hg;go_wp2;refine bodyPost_ret (v:= .tuple #[sL (some ⟨g,0,none⟩) B.links.length cap,iN qi 0]) (by simp[results,Tryd.results14,go_sem]) rfl ⟨g,cap,rfl,HF.out.1,Nat.le_trans Hz.out HF.out.2.1,HF.out.2.2⟩
  |_=>exact hq2.elim
 |_=>exact hq.elim
theorem aaB (V:BkV) (B:Bk) (xs:List Int) (xa:Option aD) (xc:Nat) (n:Int) (w:wD) (hs:aB w V B) (hv:Vars w) (hx:SlI w xa xs) (hxl:xs.length<=1000000) (hbad:aH B xs (bP B n)≠0):
  Calls tP 14 #[V.val B,sL xa xs.length xc,iN qi n] w fun e w'=>e= rT (.tuple #[sL none 0 0,iN qi (aH B xs (bP B n))])/\bX w.heap.size w w':=by
 obtain⟨ta,la,pa,tc,lc,pc⟩:=V;have hres:=lC (V:=⟨ta,la,pa,tc,lc,pc⟩) (B:=B) hbad;have Hs:=lH hs;have Hv:=lH hv;have Hx:=lH hx;have Hres:=lH hres;have hne:(aH B xs (bP B n) != 0)=true:=by simpa using hbad
 clear hs hv hx hres hbad;go_enter Tryd.func14,Tryd.ntmps14
 go_wp2_with fail
 generalize hWd:w.alloc (.cells #[iN qi B.hours,sL ta B.towns.length tc,sL la B.links.length lc,sL pa B.pairs.length pc] 26)=W;have HBW:Hid (bX w.heap.size w W):=lH (by subst hWd;exact(bR _ _).alloc (nR _) _);have k0:W.cell? ⟨w.heap.size,0,none⟩=some (iN qi B.hours):=by subst hWd;go_simp
 have k1:W.cell? ⟨w.heap.size,1,none⟩=some (sL ta B.towns.length tc):=by subst hWd;go_simp
 have k2:W.cell? ⟨w.heap.size,2,none⟩=some (sL la B.links.length lc):=by subst hWd;go_simp
 have k3:W.cell? ⟨w.heap.size,3,none⟩=some (sL pa B.pairs.length pc):=by subst hWd;go_simp
 clear hWd;refine Code.wp_mono ?_ (Ns ta la pa tc lc pc B xs xa xc n w W _ Hs.out Hv.out Hx.out hxl HBW k0 k1 k2 k3 0 none none none 0 0 0 0 0 0 _ Hres.out);rintro e a w' hq
 cases e with
 |normal=>
  obtain⟨b8,rfl,hb8,hbel,hrow⟩:=hq;have HBw':Hid (bX w.heap.size w w'):=lH (HBW.out.trans (hbel.mono HBW.out.size));clear k0 k1 k2 k3 hb8 hbel hrow;go_wp2;refine bodyPost_ret (v:= .tuple #[sL none 0 0,iN qi (aH B xs (bP B n))]) (by simp[results,Tryd.results14,go_sem]) rfl ⟨rfl,HBw'.out⟩
 |_=>exact hq.elim
theorem c16 (V:BkV) (B:Bk) (xs:List Int) (xa:Option aD) (xc:Nat) (n:Int) (w:wD) (hs:aB w V B) (hv:Vars w) (hx:SlI w xa xs) (hxl:xs.length<=1000000):
  Calls tP 14 #[V.val B,sL xa xs.length xc,iN qi n] w (aax w B xs n):=by
 by_cases hok:aH B xs (bP B n)=0
 ·obtain⟨ht,hr⟩:=aaz hok;obtain⟨h0,h1,h2⟩:=nN hr;have hG:=gY h0;have hl:=hG.fine.links;have ht1:=hG.fine.towns;have hh:=hG.fine.hours;unfold Bk.spokes at hl;obtain⟨tb,tofs,rfl,hT⟩:=tq hx h1 (by omega) h2;unfold bP at ht;rw[show RowKit.wrap64 (B.hours-1)=B.hours-1 from IntWalk.wrap64_in _ (by omega)] at ht;have hn:=fK ht;obtain⟨h,rfl⟩: ∃h:Nat,n=(h:Int):=⟨n.toNat,by omega⟩;rw[h1];refine(aaA V B xs tb tofs xc h w hs hv hx h1 hG hT (by omega) hok).mono ?_;rintro e w' ⟨g,cap,rfl,k1,k2,k3⟩;exact⟨fun _=>⟨g,cap,rfl,k1,k2⟩,fun hb=>absurd hok hb,k3⟩
 ·refine(aaB V B xs xa xc n w hs hv hx hxl hok).mono ?_;rintro e w' ⟨rfl,hb⟩;exact⟨fun h=>absurd h hok,fun _=>rfl,hb⟩
structure Bx (u:wD) (s:Nat) (t l p:vL):Prop where
 z:s<u.heap.size
 c1:u.cell? ⟨s,1,none⟩=some t
 c2:u.cell? ⟨s,2,none⟩=some l
 c3:u.cell? ⟨s,3,none⟩=some p
 f1:u.frozen? ⟨s,1,none⟩=false
 f2:u.frozen? ⟨s,2,none⟩=false
 f3:u.frozen? ⟨s,3,none⟩=false
theorem Bx.below {u u':wD} {s:Nat} {t l p:vL} (h:Bx u s t l p) (hb:bX u.heap.size u u'):Bx u' s t l p:=
 ⟨Nat.lt_of_lt_of_le h.z hb.size,aoF hb h.c1 (nR _),aoF hb h.c2 (nR _),aoF hb h.c3 (nR _),by rw[(ak hb).2 _ _ h.z];exact h.f1,by rw[(ak hb).2 _ _ h.z];exact h.f2,by rw[(ak hb).2 _ _ h.z];exact h.f3⟩
noncomputable def Nz:Code:=match Tryd.f70.body with
 |some (.seq _ (.seq c _))=>c
 |_=> .skip
structure Own3 (W w3:wD) (s:Nat) (B:Bk) (oa qa:Nat->Option aD) (oc qc:Nat->Nat) (tb tcap lb pb:Nat) (pad:Option aD) (pcap:Nat):Prop where
 tl:W.heap.size<=tb
 ll:W.heap.size<=lb
 pl:W.heap.size<=pb
 th:tb<w3.heap.size
 lh:lb<w3.heap.size
 tk:B.towns.length<=tcap/\tcap<=maxLen
 towns: ∀(k:Nat) (x:ByteArray),B.towns[k]? =some x->w3.cell? ⟨tb,k,none⟩=some (.string x)
 links: ∀(i:Nat) (L:Lnk),B.links[i]? =some L->w3.cell? ⟨lb,i*3,none⟩=some (iN qi L.one)/\w3.cell? ⟨lb,i*3+1,none⟩=some (iN qi L.two)/\w3.cell? ⟨lb,i*3+2,none⟩=some (sL (oa i) L.steps.length (oc i))
 lf: ∀j,w3.frozen? ⟨lb,j,none⟩=false
 pairs: ∀(i:Nat) (L:Pr),B.pairs[i]? =some L->pad=some ⟨pb,0,none⟩/\pb<w3.heap.size/\w3.cell? ⟨pb,i*3,none⟩=some (iN qi L.one)/\w3.cell? ⟨pb,i*3+1,none⟩=some (iN qi L.two)/\w3.cell? ⟨pb,i*3+2,none⟩=some (sL (qa i) L.calls.length (qc i))/\ ∀j,w3.frozen? ⟨pb,j,none⟩=false
 pc:pad=none->pcap=0
 rp:bG w3 pad
 rl: ∀ad,pad=some ad->W.heap.size<=ad.block
 rl2: ∀ad,pad=some ad->ad.block≠lb
 ne:tb≠lb/\tb≠pb/\lb≠pb
 below:bX W.heap.size W w3
def R1P (v0:vL) (ta la pa:Option aD) (tc lc pc:Nat) (B:Bk) (w W:wD) (oa qa:Nat->Option aD) (oc qc:Nat->Nat) (a:Act) (w':wD):Prop:=
 ∃(tb tcap lb lcap pb:Nat) (pad:Option aD) (pcap:Nat) (w3:wD),Own3 W w3 w.heap.size B oa qa oc qc tb tcap lb pb pad pcap/\
  a=⟨#[v0,pN (some ⟨w.heap.size,0,none⟩),pN (some ⟨w.heap.size+1,0,none⟩),ud,ud,pN (some ⟨w.heap.size,0,none⟩),pN (some ⟨w.heap.size,1,none⟩),sL ta B.towns.length tc,sL (some ⟨tb,0,none⟩) B.towns.length tcap,pN (some ⟨w.heap.size,0,none⟩),pN (some ⟨w.heap.size,2,none⟩),sL la B.links.length lc,sL (some ⟨lb,0,none⟩) B.links.length lcap,pN (some ⟨w.heap.size,0,none⟩),pN (some ⟨w.heap.size,3,none⟩),sL pa B.pairs.length pc,sL pad B.pairs.length pcap,pN (some ⟨w.heap.size,0,none⟩),pN (some ⟨w.heap.size,1,none⟩),pN (some ⟨w.heap.size,0,none⟩),pN (some ⟨w.heap.size,2,none⟩),pN (some ⟨w.heap.size,0,none⟩),pN (some ⟨w.heap.size,3,none⟩),ud,ud,ud,ud,ud,ud,ud,ud,ud,ud,ud,ud,ud,ud,ud,ud,ud,ud,ud,ud,ud,ud,ud,ud,ud,ud,ud,ud,ud,ud,ud,ud,ud,ud,ud,ud,ud,ud,ud,ud,ud,ud,ud,ud,ud],[]⟩/\
  w'=(((w3.setCell ⟨w.heap.size,1,none⟩ (sL (some ⟨tb,0,none⟩) B.towns.length tcap)).setCell ⟨w.heap.size,2,none⟩ (sL (some ⟨lb,0,none⟩) B.links.length lcap)).setCell ⟨w.heap.size,3,none⟩ (sL pad B.pairs.length pcap))
theorem aaC (ta la pa:Option aD) (tc lc pc:Nat) (B:Bk) (w W:wD) (oa qa:Nat->Option aD) (oc qc:Nat->Nat) (hl1:B.towns.length-1<=B.links.length/\B.links.length<=6) (ht1:2<=B.towns.length/\B.towns.length<=4) (hp1:B.pairs.length<=6)
    (HTW:Hid (SlS w ta B.towns)) (HO:Hid (∀(i:Nat) (L:Lnk),B.links[i]? =some L->(∃b o,la=some ⟨b,o,none⟩/\w.cell? ⟨b,o+i*3,none⟩=some (iN qi L.one)/\w.cell? ⟨b,o+i*3+1,none⟩=some (iN qi L.two)/\w.cell? ⟨b,o+i*3+2,none⟩=some (sL (oa i) L.steps.length (oc i)))/\SlB w (oa i) L.steps/\L.steps.length<=1000000))
    (HQ:Hid (∀(i:Nat) (L:Pr),B.pairs[i]? =some L->(∃b o,pa=some ⟨b,o,none⟩/\w.cell? ⟨b,o+i*3,none⟩=some (iN qi L.one)/\w.cell? ⟨b,o+i*3+1,none⟩=some (iN qi L.two)/\w.cell? ⟨b,o+i*3+2,none⟩=some (sL (qa i) L.calls.length (qc i)))/\SlB w (qa i) L.calls/\L.calls.length<=1000000))
    (Hpc:Hid (pa=none->pc=0)) (HBW:Hid (bX w.heap.size w W)) (HBx:Hid (Bx W w.heap.size (sL ta B.towns.length tc) (sL la B.links.length lc) (sL pa B.pairs.length pc))) (v0:vL):
    Nz.wp tP (Exit.then (R1P v0 ta la pa tc lc pc B w W oa qa oc qc) Gone) ⟨#[v0,pN (some ⟨w.heap.size,0,none⟩),pN (some ⟨w.heap.size+1,0,none⟩),ud,ud,ud,ud,ud,ud,ud,ud,ud,ud,ud,ud,ud,ud,ud,ud,ud,ud,ud,ud,ud,ud,ud,ud,ud,ud,ud,ud,ud,ud,ud,ud,ud,ud,ud,ud,ud,ud,ud,ud,ud,ud,ud,ud,ud,ud,ud,ud,ud,ud,ud,ud,ud,ud,ud,ud,ud,ud,ud,ud,ud,ud,ud,ud,ud],[]⟩ W:=by
  have HT:Hid (∀u,bX W.heap.size W u->Calls tP 89 #[sL ta B.towns.length tc] u fun e u'=> ∃g cap,e= rT (sL (some ⟨g,0,none⟩) B.towns.length cap)/\
      Hid (u.heap.size<=g/\g<u'.heap.size/\(∀(k:Nat) (x:ByteArray),B.towns[k]? =some x->u'.cell? ⟨g,k,none⟩=some (.string x))/\B.towns.length<=cap/\cap<=maxLen)/\Hid (bX u.heap.size u u')/\Hid (bX W.heap.size W u')/\
      u'.cell? ⟨w.heap.size,1,none⟩=some (sL ta B.towns.length tc)/\u'.cell? ⟨w.heap.size,2,none⟩=some (sL la B.links.length lc)/\u'.cell? ⟨w.heap.size,3,none⟩=some (sL pa B.pairs.length pc)):=lH fun u hu=>by
    refine(aaq B.towns ta tc u (HTW.out.below (HBW.out.trans (hu.mono HBW.out.size)) (nR _)) (by omega) (by omega)).mono ?_;rintro e u' ⟨g,cap,rfl,h1,h2⟩;have hb:=hu.trans (h2.mono hu.size);have hx:=HBx.out.below hb;exact⟨g,cap,rfl,lH h1,lH h2,lH hb,hx.c1,hx.c2,hx.c3⟩
  have HL:Hid (∀u,bX W.heap.size W u->Calls tP 90 #[sL la B.links.length lc] u fun e u'=> ∃g cap,e= rT (sL (some ⟨g,0,none⟩) B.links.length cap)/\
      Hid (u.heap.size<=g/\g<u'.heap.size/\(∀(i:Nat) (L:Lnk),B.links[i]? =some L->u'.cell? ⟨g,i*3,none⟩=some (iN qi L.one)/\u'.cell? ⟨g,i*3+1,none⟩=some (iN qi L.two)/\u'.cell? ⟨g,i*3+2,none⟩=some (sL (oa i) L.steps.length (oc i)))/\ ∀j,u'.frozen? ⟨g,j,none⟩=false)/\Hid (bX u.heap.size u u')/\Hid (bX W.heap.size W u')/\
      u'.cell? ⟨w.heap.size,1,none⟩=some (sL ta B.towns.length tc)/\u'.cell? ⟨w.heap.size,2,none⟩=some (sL la B.links.length lc)/\u'.cell? ⟨w.heap.size,3,none⟩=some (sL pa B.pairs.length pc)):=lH fun u hu=>by
    have hwu:=HBW.out.trans (hu.mono HBW.out.size);refine(aat B.links la lc u oa oc (fun i L hL=> ?_) (by omega) (by omega)).mono ?_
    · obtain⟨⟨b,o,e,k0,k1,k2⟩,_⟩:=HO.out i L hL
      exact⟨b,o,e,aoF hwu k0 (nR _),aoF hwu k1 (nR _),aoF hwu k2 (nR _)⟩
    · rintro e u' ⟨g,cap,rfl,h1,h2⟩
      have hb:=hu.trans (h2.mono hu.size);have hx:=HBx.out.below hb;exact⟨g,cap,rfl,lH h1,lH h2,lH hb,hx.c1,hx.c2,hx.c3⟩
  have HP:Hid (∀u,bX W.heap.size W u->Calls tP 91 #[sL pa B.pairs.length pc] u fun e u'=> ∃g a cap,e= rT (sL a B.pairs.length cap)/\
      Hid (u.heap.size<=g/\(1<=B.pairs.length->a=some ⟨g,0,none⟩/\g<u'.heap.size)/\(a=none->cap=0)/\bG u' a/\(∀(i:Nat) (L:Pr),B.pairs[i]? =some L->u'.cell? ⟨g,i*3,none⟩=some (iN qi L.one)/\u'.cell? ⟨g,i*3+1,none⟩=some (iN qi L.two)/\u'.cell? ⟨g,i*3+2,none⟩=some (sL (qa i) L.calls.length (qc i)))/\(1<=B.pairs.length-> ∀j,u'.frozen? ⟨g,j,none⟩=false)/\ ∀ad,a=some ad->u.heap.size<=ad.block)/\Hid (bX u.heap.size u u')/\Hid (bX W.heap.size W u')/\
      Hid (Bx u' w.heap.size (sL ta B.towns.length tc) (sL la B.links.length lc) (sL pa B.pairs.length pc))/\u'.cell? ⟨w.heap.size,1,none⟩=some (sL ta B.towns.length tc)/\u'.cell? ⟨w.heap.size,2,none⟩=some (sL la B.links.length lc)/\u'.cell? ⟨w.heap.size,3,none⟩=some (sL pa B.pairs.length pc)/\u'.frozen? ⟨w.heap.size,1,none⟩=false/\u'.frozen? ⟨w.heap.size,2,none⟩=false/\u'.frozen? ⟨w.heap.size,3,none⟩=false):=lH fun u hu=>by
    have hwu:=HBW.out.trans (hu.mono HBW.out.size);refine(aau B.pairs pa pc u qa qc (fun i L hL=> ?_) Hpc.out (by omega)).mono ?_
    · obtain⟨⟨b,o,e,k0,k1,k2⟩,_⟩:=HQ.out i L hL
      exact⟨b,o,e,aoF hwu k0 (nR _),aoF hwu k1 (nR _),aoF hwu k2 (nR _)⟩
    · rintro e u' ⟨g,a,cap,rfl,h1,h2⟩
      have hb:=hu.trans (h2.mono hu.size);have hx:=HBx.out.below hb;exact⟨g,a,cap,rfl,lH h1,lH h2,lH hb,lH hx,hx.c1,hx.c2,hx.c3,hx.f1,hx.f2,hx.f3⟩
  have HS:Hid (bX W.heap.size W W.drew):=lH (bR _ _).drew;have k1:=HBx.out.c1;have k2:=HBx.out.c2;have k3:=HBx.out.c3;simp only[Nz,Tryd.f70]
  go_region_with (first
    | (go_simp;go_at_call 89;(with_reducible refine(HT.out _ HS.out).mono ?_);rintro e w1 ⟨tb,tcap,rfl,hT,hb01,hbw1,q1,q2,q3⟩)
    | (go_simp;go_at_call 90;(with_reducible refine(HL.out _ hbw1.out).mono ?_);rintro e w2 ⟨lb,lcap,rfl,hLk,hb12,hbw2,r1,r2,r3⟩)
    | (go_simp;go_at_call 91;(with_reducible refine(HP.out _ hbw2.out).mono ?_);rintro e w3 ⟨pb,pad,pcap,rfl,hPk,hb23,hbw3,hbx,s1,s2,s3,g1,g2,g3⟩))
  all_goals
    refine⟨tb,tcap,lb,lcap,pb,pad,pcap,w3, ?_,rfl,rfl⟩;obtain⟨t1,t2,t3,t4,t5⟩:=hT.out;obtain⟨l1,l2,l3,l4⟩:=hLk.out;obtain⟨p1,p2,p3,p4,p5,p6,p7⟩:=hPk.out;have z1:=hbw1.out.size;have z2:=hbw2.out.size;have z12:=hb12.out.size;have z23:=hb23.out.size;have hb13:=hb12.out.trans (hb23.out.mono z12);refine⟨?_,by omega,by omega,by omega,by omega,⟨t4,t5⟩,fun k x hx=>aoF hb13 (t3 k x hx) (nR _),fun i L hL=> ?_,fun j=> ?_,fun i L hL=> ?_,p3,p4,fun ad e=>(by have:=p7 ad e;omega),fun ad e=>(by have:=p7 ad e;omega),⟨by omega,by omega,by omega⟩,hbw3.out⟩
    · simp at t1;omega
    · obtain⟨a,b,c⟩:=l3 i L hL
      exact⟨aoF hb23.out a (nR _),aoF hb23.out b (nR _),aoF hb23.out c (nR _)⟩
    · rw[(ak hb23.out).2 _ _ l2];exact l4 j
    · have hlen:1<=B.pairs.length:=by have:=(lS.1 hL).1;omega
      obtain⟨a,b,c⟩:=p5 i L hL;exact⟨(p2 hlen).1,(p2 hlen).2,a,b,c,p6 hlen⟩
theorem grown_setCell {a w:wD} {b o:Nat} {v:vL} (h:a.grownBy w (some b)):a.grownBy (w.setCell ⟨b,o,none⟩ v) (some b):=
 ⟨h.os,h.tape,h.output,by simpa using h.size,fun k hk hne=>by
  have e:k≠b:=fun e=>hne (by rw[e]);rw[Below.heap_setCell _ _ _ k e];exact h.block k hk hne⟩
theorem dG {w w':wD} {r b o:Nat} {v:vL} (h:w.grownBy w' (some r)) (hc:w.cell? ⟨b,o,none⟩=some v) (hne:b≠r):w'.cell? ⟨b,o,none⟩=some v:=h.cell hc (fun e=>by cases e;exact hne rfl)
theorem EZ {w w':wD} {r b o:Nat} (h:w.grownBy w' (some r)) (hb:b<w.heap.size) (hne:b≠r):w'.frozen? ⟨b,o,none⟩=w.frozen? ⟨b,o,none⟩:=World.frozen?_of_block (w:=w) (a:=⟨b,o,none⟩) (h.block b hb (fun e=>by cases e;exact hne rfl))
structure C1 (W1:wD) (B:Bk) (oa:Nat->Option aD) (oc:Nat->Nat) (lb:Nat) (sb:Nat->Nat) (k:Nat) (wr:wD):Prop where
 g:W1.grownBy wr (some lb)
 z:lb<wr.heap.size
 f: ∀j,wr.frozen? ⟨lb,j,none⟩=false
 l: ∀(i:Nat) (L:Lnk),B.links[i]? =some L->wr.cell? ⟨lb,i*3,none⟩=some (iN qi L.one)/\wr.cell? ⟨lb,i*3+1,none⟩=some (iN qi L.two)/\(i<k-> ∃sc,wr.cell? ⟨lb,i*3+2,none⟩=some (sL (some ⟨sb i,0,none⟩) L.steps.length sc))/\(k<=i->wr.cell? ⟨lb,i*3+2,none⟩=some (sL (oa i) L.steps.length (oc i)))
 s: ∀(i:Nat),i<k->W1.heap.size<=sb i/\sb i<wr.heap.size
 t: ∀(i:Nat) (L:Lnk),B.links[i]? =some L->i<k-> ∀(m:Nat) (x:Int×Int),L.steps[m]? =some x->wr.cell? ⟨sb i,m*2,none⟩=some (iN qi x.1)/\wr.cell? ⟨sb i,m*2+1,none⟩=some (iN qi x.2)
theorem C1.step {W1:wD} {B:Bk} {oa:Nat->Option aD} {oc:Nat->Nat} {lb:Nat} {sb:Nat->Nat} {k:Nat} {wr u:wD} {L0:Lnk} {g cap:Nat} (h:C1 W1 B oa oc lb sb k wr) (hlb:lb<W1.heap.size) (hL0:B.links[k]? =some L0) (hb:bX wr.heap.size wr u) (hg:wr.heap.size<=g) (hg2:g<u.heap.size)
  (hst: ∀(m:Nat) (x:Int×Int),L0.steps[m]? =some x->u.cell? ⟨g,m*2,none⟩=some (iN qi x.1)/\u.cell? ⟨g,m*2+1,none⟩=some (iN qi x.2)):
  C1 W1 B oa oc lb (fun i=>if i=k then g else sb i) (k+1) (u.setCell ⟨lb,k*3+2,none⟩ (sL (some ⟨g,0,none⟩) L0.steps.length cap)):=by
 have hz:=h.g.size;have hz2:=hb.size;have far: ∀{b o:Nat} {v:vL},u.cell? ⟨b,o,none⟩=some v->b≠lb->(u.setCell ⟨lb,k*3+2,none⟩ (sL (some ⟨g,0,none⟩) L0.steps.length cap)).cell? ⟨b,o,none⟩=some v:=fun h0 hne=>by
  rw[wF _ _ _ _ (Ne.symm hne)];exact h0
 have oth: ∀{o:Nat} {v:vL},wr.cell? ⟨lb,o,none⟩=some v->o≠k*3+2->(u.setCell ⟨lb,k*3+2,none⟩ (sL (some ⟨g,0,none⟩) L0.steps.length cap)).cell? ⟨lb,o,none⟩=some v:=fun {o v} h0 hne=>by
  rw[wO _ _ _ _ (by intro e;simp only[Addr.mk.injEq] at e;omega)];exact aoF hb h0 (nR _)
 refine⟨grown_setCell (grown_below h.g hb),by simp;have:=h.z;omega,fun j=> ?_,fun i L hL=> ?_,fun i hi=> ?_,fun i L hL hi m x hx=> ?_⟩
 ·rw[World.frozen?_setCell,(ak hb).2 _ _ h.z];exact h.f j
 ·obtain⟨h0,h1,h2,h3⟩:=h.l i L hL;refine⟨oth h0 (by omega),oth h1 (by omega),fun hi=> ?_,fun hi=>oth (h3 (by omega)) (by omega)⟩;by_cases e:i=k
  ·subst e;rw[hL0] at hL
   cases hL
   simp only[if_pos];exact⟨cap,World.cell?_setCell_same _ _ _ (aoF hb (h3 (nR _)) (nR _))⟩
  ·simp only[if_neg e];obtain⟨sc,h4⟩:=h2 (by omega);exact⟨sc,oth h4 (by omega)⟩
 ·by_cases e:i=k
  ·simp only[if_pos e];rw[World.size_setCell];omega
  ·simp only[if_neg e];have:=h.s i (by omega);rw[World.size_setCell];omega
 ·by_cases e:i=k
  ·subst e;rw[hL0] at hL
   cases hL
   simp only[if_pos];obtain⟨a,b⟩:=hst m x hx;exact⟨far a (by omega),far b (by omega)⟩
  ·simp only[if_neg e];obtain⟨a,b⟩:=h.t i L hL (by omega) m x hx;have:=h.s i (by omega);exact⟨far (aoF hb a (nR _)) (by omega),far (aoF hb b (nR _)) (by omega)⟩
structure C2 (W2:wD) (B:Bk) (qa:Nat->Option aD) (qc:Nat->Nat) (pb:Nat) (cb:Nat->Nat) (k:Nat) (wr:wD):Prop where
 g:W2.grownBy wr (some pb)
 z:1<=B.pairs.length->pb<wr.heap.size
 f:1<=B.pairs.length-> ∀j,wr.frozen? ⟨pb,j,none⟩=false
 l: ∀(i:Nat) (L:Pr),B.pairs[i]? =some L->wr.cell? ⟨pb,i*3,none⟩=some (iN qi L.one)/\wr.cell? ⟨pb,i*3+1,none⟩=some (iN qi L.two)/\(i<k-> ∃sc,wr.cell? ⟨pb,i*3+2,none⟩=some (sL (some ⟨cb i,0,none⟩) L.calls.length sc))/\(k<=i->wr.cell? ⟨pb,i*3+2,none⟩=some (sL (qa i) L.calls.length (qc i)))
 s: ∀(i:Nat),i<k->W2.heap.size<=cb i/\cb i<wr.heap.size/\ ∀j,j<k->j≠i->cb j≠cb i
 t: ∀(i:Nat) (L:Pr),B.pairs[i]? =some L->i<k->(∀(m:Nat) (x:Int×Int),L.calls[m]? =some x->wr.cell? ⟨cb i,m*2,none⟩=some (iN qi x.1)/\wr.cell? ⟨cb i,m*2+1,none⟩=some (iN qi x.2))/\ ∀j,wr.frozen? ⟨cb i,j,none⟩=false
theorem C2.step {W2:wD} {B:Bk} {qa:Nat->Option aD} {qc:Nat->Nat} {pb:Nat} {cb:Nat->Nat} {k:Nat} {wr u:wD} {L0:Pr} {g cap:Nat} (h:C2 W2 B qa qc pb cb k wr) (hpb:pb<W2.heap.size) (hL0:B.pairs[k]? =some L0) (hb:bX wr.heap.size wr u) (hg:wr.heap.size<=g) (hg2:g<u.heap.size)
  (hst: ∀(m:Nat) (x:Int×Int),L0.calls[m]? =some x->u.cell? ⟨g,m*2,none⟩=some (iN qi x.1)/\u.cell? ⟨g,m*2+1,none⟩=some (iN qi x.2)) (hfr: ∀j,u.frozen? ⟨g,j,none⟩=false):
  C2 W2 B qa qc pb (fun i=>if i=k then g else cb i) (k+1) (u.setCell ⟨pb,k*3+2,none⟩ (sL (some ⟨g,0,none⟩) L0.calls.length cap)):=by
 have hz:=h.g.size;have hz2:=hb.size;have far: ∀{b o:Nat} {v:vL},u.cell? ⟨b,o,none⟩=some v->b≠pb->(u.setCell ⟨pb,k*3+2,none⟩ (sL (some ⟨g,0,none⟩) L0.calls.length cap)).cell? ⟨b,o,none⟩=some v:=fun h0 hne=>by
  rw[wF _ _ _ _ (Ne.symm hne)];exact h0
 have oth: ∀{o:Nat} {v:vL},wr.cell? ⟨pb,o,none⟩=some v->o≠k*3+2->(u.setCell ⟨pb,k*3+2,none⟩ (sL (some ⟨g,0,none⟩) L0.calls.length cap)).cell? ⟨pb,o,none⟩=some v:=fun {o v} h0 hne=>by
  rw[wO _ _ _ _ (by intro e;simp only[Addr.mk.injEq] at e;omega)];exact aoF hb h0 (nR _)
 refine⟨grown_setCell (grown_below h.g hb),fun h1=>by simp;have:=h.z h1;omega,fun h1 j=> ?_,fun i L hL=> ?_,fun i hi=> ?_,fun i L hL hi=> ?_⟩
 ·rw[World.frozen?_setCell,(ak hb).2 _ _ (h.z h1)];exact h.f h1 j
 ·obtain⟨h0,h1,h2,h3⟩:=h.l i L hL;refine⟨oth h0 (by omega),oth h1 (by omega),fun hi=> ?_,fun hi=>oth (h3 (by omega)) (by omega)⟩;by_cases e:i=k
  ·subst e;rw[hL0] at hL
   cases hL
   simp only[if_pos];exact⟨cap,World.cell?_setCell_same _ _ _ (aoF hb (h3 (nR _)) (nR _))⟩
  ·simp only[if_neg e];obtain⟨sc,h4⟩:=h2 (by omega);exact⟨sc,oth h4 (by omega)⟩
 ·rw[World.size_setCell];by_cases e:i=k
  ·simp only[if_pos e];refine⟨by omega,hg2,fun j hj hne=> ?_⟩;have e2: ¬j=k:=by omega
   simp only[if_neg e2];have:=h.s j (by omega);omega
  ·simp only[if_neg e];have h1:=h.s i (by omega);refine⟨h1.1,by omega,fun j hj hne=> ?_⟩;by_cases e2:j=k
   ·simp only[if_pos e2];omega
   ·simp only[if_neg e2];exact h1.2.2 j (by omega) hne
 ·by_cases e:i=k
  ·subst e;rw[hL0] at hL
   cases hL
   simp only[if_pos];exact⟨fun m x hx=>⟨far (hst m x hx).1 (by omega),far (hst m x hx).2 (by omega)⟩,fun j=>by rw[World.frozen?_setCell];exact hfr j⟩
  ·simp only[if_neg e];have h0:=h.t i L hL (by omega);have:=h.s i (by omega);exact⟨fun m x hx=>⟨far (aoF hb (h0.1 m x hx).1 (nR _)) (by omega),far (aoF hb (h0.1 m x hx).2 (nR _)) (by omega)⟩,fun j=>by rw[World.frozen?_setCell,(ak hb).2 _ _ this.2.1];exact h0.2 j⟩
theorem aaD {w w':wD} {a:Option aD} {r:Nat} (h:bG w a) (hg:w.grownBy w' (some r)) (hne: ∀ad,a=some ad->ad.block≠r):bG w' a:=fun ad e=>by
 obtain⟨c,t,z,h1⟩:=h ad e;exact⟨c,t,z,by rw[hg.block _ (Array.getElem?_eq_some_iff.1 h1).1 (fun e2=>by cases e2;exact hne ad e rfl)];exact h1⟩
theorem c91 (V:BkV) (B:Bk) (hG:Good B) (w:wD) (hs:aB w V B) (hpc:V.pa=none->V.pc=0):
    Calls tP 70 #[V.val B] w fun e w'=> ∃V' O,e= rT (V'.val B)/\bI w' w.heap.size V' B O/\bX w.heap.size w w':=by
  obtain⟨ta,la,pa,tc,lc,pc⟩:=V;have hl1:=hG.fine.links;have ht1:=hG.fine.towns;have hp1:=hG.fine.pairs;have hh1:=hG.fine.hours;unfold Bk.spokes at hl1;obtain⟨oa,oc,ho⟩:=aar hs.links;obtain⟨qa,qc,hq⟩:=aas hs.pairs;have HTW:=lH hs.towns;have HO:=lH ho;have HQ:=lH hq;have HG:=lH hG;have Hpc:=lH hpc;clear hs ho hq hG hpc;go_enter Tryd.func70,Tryd.ntmps70
  go_wp2_with fail
  generalize hWd:(w.alloc (.cells #[iN qi B.hours,sL ta B.towns.length tc,sL la B.links.length lc,sL pa B.pairs.length pc] 81)).alloc (.cells #[iN qi 0,sL none 0 0,sL none 0 0,sL none 0 0] 81)=W;have HBW:Hid (bX w.heap.size w W):=lH (by subst hWd;exact((bR _ _).alloc (nR _) _).alloc (by simp) _);have HZ:Hid (W.heap.size=w.heap.size+2):=lH (by subst hWd;simp);have HBx:Hid (Bx W w.heap.size (sL ta B.towns.length tc) (sL la B.links.length lc) (sL pa B.pairs.length pc)):=lH (by subst hWd;exact⟨by simp;omega,by go_simp,by go_simp,by go_simp,by go_simp,by go_simp,by go_simp⟩);have hc0:W.cell? ⟨w.heap.size,0,none⟩=some (iN qi B.hours):=by subst hWd;go_simp
  have HR:Hid (dW W (w.heap.size+1) (iN qi 0) (sL none 0 0) (sL none 0 0) (sL none 0 0)):=lH (by subst hWd;exact⟨by simp,by go_simp,by go_simp,by go_simp,by go_simp,by go_simp,by go_simp,by go_simp,by go_simp⟩);have Hc0:=lH hc0;clear hWd hc0;refine Code.wp_mono ?_ (aaC ta la pa tc lc pc B w W oa qa oc qc hl1 ht1 hp1 HTW HO HQ Hpc HBW HBx _);rintro e a w' hq
  cases e with
  |normal=>
    obtain⟨tb,tcap,lb,lcap,pb,pad,pcap,w3,h3,rfl,rfl⟩:=hq;have H3:=lH h3;clear h3;have hb3:=HBx.out.below H3.out.below;have hs1:w.heap.size≠w.heap.size+1:=by omega
    have hr4:=HR.out.below H3.out.below HR.out.z;have z3:=H3.out.below.size;have zW:=HZ.out;have HW1:Hid (∀{b o:Nat} {v:vL},w3.cell? ⟨b,o,none⟩=some v->b≠w.heap.size->(((w3.setCell ⟨w.heap.size,1,none⟩ (sL (some ⟨tb,0,none⟩) B.towns.length tcap)).setCell ⟨w.heap.size,2,none⟩ (sL (some ⟨lb,0,none⟩) B.links.length lcap)).setCell ⟨w.heap.size,3,none⟩ (sL pad B.pairs.length pcap)).cell? ⟨b,o,none⟩=some v):=lH fun h0 hne=>by
      rw[wF _ _ _ _ (Ne.symm hne),wF _ _ _ _ (Ne.symm hne),wF _ _ _ _ (Ne.symm hne)];exact h0
    have HF1:Hid (∀a,(((w3.setCell ⟨w.heap.size,1,none⟩ (sL (some ⟨tb,0,none⟩) B.towns.length tcap)).setCell ⟨w.heap.size,2,none⟩ (sL (some ⟨lb,0,none⟩) B.links.length lcap)).setCell ⟨w.heap.size,3,none⟩ (sL pad B.pairs.length pcap)).frozen? a=w3.frozen? a):=lH fun a=>by simp only[World.frozen?_setCell]
    have HS1:Hid ((((w3.setCell ⟨w.heap.size,1,none⟩ (sL (some ⟨tb,0,none⟩) B.towns.length tcap)).setCell ⟨w.heap.size,2,none⟩ (sL (some ⟨lb,0,none⟩) B.links.length lcap)).setCell ⟨w.heap.size,3,none⟩ (sL pad B.pairs.length pcap)).heap.size=w3.heap.size):=lH (by simp);have HB1:Hid (bX w.heap.size w (((w3.setCell ⟨w.heap.size,1,none⟩ (sL (some ⟨tb,0,none⟩) B.towns.length tcap)).setCell ⟨w.heap.size,2,none⟩ (sL (some ⟨lb,0,none⟩) B.links.length lcap)).setCell ⟨w.heap.size,3,none⟩ (sL pad B.pairs.length pcap))):=lH ((((HBW.out.trans (H3.out.below.mono HBW.out.size)).setCell (p:=⟨w.heap.size,1,none⟩) (nR _) _).setCell (p:=⟨w.heap.size,2,none⟩) (nR _) _).setCell (p:=⟨w.heap.size,3,none⟩) (nR _) _);have HRP:Hid (bG (((w3.setCell ⟨w.heap.size,1,none⟩ (sL (some ⟨tb,0,none⟩) B.towns.length tcap)).setCell ⟨w.heap.size,2,none⟩ (sL (some ⟨lb,0,none⟩) B.links.length lcap)).setCell ⟨w.heap.size,3,none⟩ (sL pad B.pairs.length pcap)) pad):=lH fun ad e=>by
      obtain⟨c,t,z,h1⟩:=H3.out.rp ad e;have:=H3.out.rl ad e;have hne:ad.block≠w.heap.size:=by omega
      exact⟨c,t,z,by rw[Below.heap_setCell _ _ _ _ hne,Below.heap_setCell _ _ _ _ hne,Below.heap_setCell _ _ _ _ hne];exact h1⟩
    have d0:(((w3.setCell ⟨w.heap.size,1,none⟩ (sL (some ⟨tb,0,none⟩) B.towns.length tcap)).setCell ⟨w.heap.size,2,none⟩ (sL (some ⟨lb,0,none⟩) B.links.length lcap)).setCell ⟨w.heap.size,3,none⟩ (sL pad B.pairs.length pcap)).cell? ⟨w.heap.size,0,none⟩=some (iN qi B.hours):=by
      have:=aoF H3.out.below Hc0.out (nR _);rw[wO _ _ _ _ (by intro e;cases e),wO _ _ _ _ (by intro e;cases e),wO _ _ _ _ (by intro e;cases e)];exact this
    have d1:(((w3.setCell ⟨w.heap.size,1,none⟩ (sL (some ⟨tb,0,none⟩) B.towns.length tcap)).setCell ⟨w.heap.size,2,none⟩ (sL (some ⟨lb,0,none⟩) B.links.length lcap)).setCell ⟨w.heap.size,3,none⟩ (sL pad B.pairs.length pcap)).cell? ⟨w.heap.size,1,none⟩=some (sL (some ⟨tb,0,none⟩) B.towns.length tcap):=by
      rw[wO _ _ _ _ (by intro e;cases e),wO _ _ _ _ (by intro e;cases e)];exact World.cell?_setCell_same _ _ _ hb3.c1
    have d2:(((w3.setCell ⟨w.heap.size,1,none⟩ (sL (some ⟨tb,0,none⟩) B.towns.length tcap)).setCell ⟨w.heap.size,2,none⟩ (sL (some ⟨lb,0,none⟩) B.links.length lcap)).setCell ⟨w.heap.size,3,none⟩ (sL pad B.pairs.length pcap)).cell? ⟨w.heap.size,2,none⟩=some (sL (some ⟨lb,0,none⟩) B.links.length lcap):=by
      rw[wO _ _ _ _ (by intro e;cases e)];refine World.cell?_setCell_same _ _ _ (?_: _=some (sL la B.links.length lc));rw[wO _ _ _ _ (by intro e;cases e)];exact hb3.c2
    have d3:(((w3.setCell ⟨w.heap.size,1,none⟩ (sL (some ⟨tb,0,none⟩) B.towns.length tcap)).setCell ⟨w.heap.size,2,none⟩ (sL (some ⟨lb,0,none⟩) B.links.length lcap)).setCell ⟨w.heap.size,3,none⟩ (sL pad B.pairs.length pcap)).cell? ⟨w.heap.size,3,none⟩=some (sL pad B.pairs.length pcap):=by
      refine World.cell?_setCell_same _ _ _ (?_: _=some (sL pa B.pairs.length pc));rw[wO _ _ _ _ (by intro e;cases e),wO _ _ _ _ (by intro e;cases e)];exact hb3.c3
    generalize (((w3.setCell ⟨w.heap.size,1,none⟩ (sL (some ⟨tb,0,none⟩) B.towns.length tcap)).setCell ⟨w.heap.size,2,none⟩ (sL (some ⟨lb,0,none⟩) B.links.length lcap)).setCell ⟨w.heap.size,3,none⟩ (sL pad B.pairs.length pcap))=W1 at *;have hne:w.heap.size≠lb:=by have:=H3.out.ll;omega
    have HD:=lH (And.intro d0 (And.intro d1 (And.intro d2 d3)));have HC1:Hid (C1 W1 B oa oc lb (fun _=>0) 0 W1):=lH ⟨EC _ _,by rw[HS1.out];exact H3.out.lh,fun j=>by rw[HF1.out];exact H3.out.lf j,fun i L hL=>by
      obtain⟨a,b,c⟩:=H3.out.links i L hL;exact⟨HW1.out a (by omega),HW1.out b (by omega),fun h=>absurd h (by omega),fun _=>HW1.out c (by omega)⟩,fun i h=>absurd h (by omega),fun i L _ h=>absurd h (by omega)⟩
    clear hb3 hr4 d0 d1 d3
    go_wp2_with fail
    go_loopw [27] (fun i wr=> ∃(k:Nat) (sb:Nat->Nat),k<=B.links.length/\i= iN qi (k:Int)/\C1 W1 B oa oc lb sb k wr) (fun i _=>B.links.length-(intOf i).toNat)
    case atStart=>exact⟨0,_,Nat.zero_le _,rfl,HC1.out⟩
    case round=>
      obtain⟨k,sb,hk,rfl,hI⟩:=hrel;have HI:=lH hI;clear hI;have q2:=dG HI.out.g HD.out.2.2.1 hne;have hll:=H3.out.ll;have HBr:Hid (bX w.heap.size w wr):=lH (HB1.out.grown HI.out.g HB1.out.size (fun j hj=>by cases hj;omega));by_cases hlt:k<B.links.length
      · have hL:B.links[k]? =some B.links[k]:=lG hlt
        obtain⟨_,ho2,ho3⟩:=HO.out k _ hL;have l3:=(HI.out.l k _ hL).2.2.2 (nR _);have hst1:=HG.out.steps k _ hL;have HL:=lH hL;generalize B.links[k]=L0 at *;clear hL;have hlf:=HI.out.f (k*3+2);have H114:Hid (Calls tP 92 #[sL (oa k) L0.steps.length (oc k)] wr.drew fun e u'=> ∃g cap,e= rT (sL (some ⟨g,0,none⟩) L0.steps.length cap)/\Hid (wr.heap.size<=g/\g<u'.heap.size/\(∀(m:Nat) (x:Int×Int),L0.steps[m]? =some x->u'.cell? ⟨g,m*2,none⟩=some (iN qi x.1)/\u'.cell? ⟨g,m*2+1,none⟩=some (iN qi x.2))/\bX wr.heap.size wr u')/\
            u'.cell? ⟨w.heap.size,2,none⟩=some (sL (some ⟨lb,0,none⟩) B.links.length lcap)/\u'.cell? ⟨lb,k*3+2,none⟩=some (sL (oa k) L0.steps.length (oc k))/\u'.frozen? ⟨lb,k*3+2,none⟩=false):=lH (by
          have hbd:bX wr.heap.size wr wr.drew:=(bR _ _).drew;refine(aao L0.steps (oa k) (oc k) wr.drew (ho2.below (HBr.out.trans (hbd.mono HBr.out.size)) (nR _)) hst1 ho3).mono ?_;rintro e u' ⟨g,cap,rfl,h1,h2,h3,h4,h5⟩;have hb:=hbd.trans (h5.mono hbd.size);exact⟨g,cap,rfl,lH ⟨h1,h2,h3,hb⟩,aoF hb q2 (nR _),aoF hb l3 (nR _),by rw[(ak hb).2 _ _ HI.out.z];exact hlf⟩)
        have hlt':(k:Int)<(B.links.length:Int):=by omega
        have hk0:(0 :Int)<=(k:Int):=Int.natCast_nonneg _;clear ho2 ho3
        go_wp2_with fail
        go_region_with (go_simp;go_at_call 92;(with_reducible refine H114.out.mono ?_);rintro e u ⟨g,cap,rfl,hu,u2,u3,u4⟩)
        all_goals
          have HS:Hid (C1 W1 B oa oc lb (fun i=>if i=k then g else sb i) (k+1) (u.setCell ⟨lb,k*3+2,none⟩ (sL (some ⟨g,0,none⟩) L0.steps.length cap))):=lH (HI.out.step (by rw[HS1.out];exact H3.out.lh) HL.out hu.out.2.2.2 hu.out.1 hu.out.2.1 hu.out.2.2.1);clear hu;go_wp2;go_roundw
          case rel=>exact⟨k+1,_,by omega,by go_num,HS.out⟩
          case measure=>simp[intOf];omega
      · have hke:k=B.links.length:=by omega
        subst hke;obtain⟨wA,hwA⟩: ∃wA,wA=wr:=⟨wr,rfl⟩;subst hwA;have q3:=dG HI.out.g HD.out.2.2.2 hne;have hpne:1<=B.pairs.length->pb≠lb:=fun _=>H3.out.ne.2.2.symm;have hsne:w.heap.size≠pb:=by have:=H3.out.pl;omega
        have HC2:Hid (C2 wA B qa qc pb (fun _=>0) 0 wA):=lH ⟨EC _ _,fun h1=>by
            obtain⟨p0,hp0⟩: ∃p0,B.pairs[0]? =some p0:=⟨_,lG (by omega)⟩;have:=(H3.out.pairs 0 p0 hp0).2.1;have hz:=HI.out.g.size;rw[HS1.out] at hz;omega,fun h1 j=>by
            obtain⟨p0,hp0⟩: ∃p0,B.pairs[0]? =some p0:=⟨_,lG (by omega)⟩;have hp:=H3.out.pairs 0 p0 hp0;rw[EZ HI.out.g (by rw[HS1.out];exact hp.2.1) (hpne h1),HF1.out];exact hp.2.2.2.2.2 j,fun i L hL=>by
            have h1:1<=B.pairs.length:=by have:=(lS.1 hL).1;omega
            obtain⟨_,_,a,b,c,_⟩:=H3.out.pairs i L hL;exact⟨dG HI.out.g (HW1.out a (Ne.symm hsne)) (hpne h1),dG HI.out.g (HW1.out b (Ne.symm hsne)) (hpne h1),fun h=>absurd h (by omega),fun _=>dG HI.out.g (HW1.out c (Ne.symm hsne)) (hpne h1)⟩,fun i h=>absurd h (by omega),fun i L _ h=>absurd h (by omega)⟩
        have HRA:Hid (bG wA pad):=lH (aaD HRP.out HI.out.g H3.out.rl2)
        go_wp2_with fail
        go_loopw [49] (fun i wr=> ∃(k:Nat) (cb:Nat->Nat),k<=B.pairs.length/\i= iN qi (k:Int)/\C2 wA B qa qc pb cb k wr/\bG wr pad/\(B.pairs.length=0->wr=wA)) (fun i _=>B.pairs.length-(intOf i).toNat)
        case atStart=>exact⟨0,_,Nat.zero_le _,rfl,HC2.out,HRA.out,fun _=>rfl⟩
        case round=>
          obtain⟨k,cb,hk2,rfl,hJ,hrw,hnil⟩:=hrel;have HJ:=lH hJ;have HNil:=lH hnil;have HRw:=lH hrw;clear hJ hrw hnil;have r3:=dG HJ.out.g q3 hsne;have hpl:=H3.out.pl;have HBq:Hid (bX w.heap.size w wr):=lH (HBr.out.grown HJ.out.g HBr.out.size (fun j hj=>by cases hj;omega));by_cases hlt:k<B.pairs.length
          · have hL:B.pairs[k]? =some B.pairs[k]:=lG hlt
            obtain⟨_,ho2,ho3⟩:=HQ.out k _ hL;have l3:=(HJ.out.l k _ hL).2.2.2 (nR _);have hst1:=(HG.out.fine.calls k _ hL).1;have hpad:=(H3.out.pairs k _ hL).1;have hpz:pb<wA.heap.size:=HC2.out.z (by omega);have HL:=lH hL;generalize B.pairs[k]=L0 at *;clear hL;have hlf:=HJ.out.f (by omega) (k*3+2);have hcl:1<=L0.calls.length:=by omega
            have H115:Hid (Calls tP 93 #[sL (qa k) L0.calls.length (qc k)] wr.drew fun e u'=> ∃g cap,e= rT (sL (some ⟨g,0,none⟩) L0.calls.length cap)/\Hid (wr.heap.size<=g/\g<u'.heap.size/\(∀(m:Nat) (x:Int×Int),L0.calls[m]? =some x->u'.cell? ⟨g,m*2,none⟩=some (iN qi x.1)/\u'.cell? ⟨g,m*2+1,none⟩=some (iN qi x.2))/\(∀j,u'.frozen? ⟨g,j,none⟩=false)/\bX wr.heap.size wr u')/\
                u'.cell? ⟨w.heap.size,3,none⟩=some (sL pad B.pairs.length pcap)/\u'.cell? ⟨pb,k*3+2,none⟩=some (sL (qa k) L0.calls.length (qc k))/\u'.frozen? ⟨pb,k*3+2,none⟩=false):=lH (by
              have hbd:bX wr.heap.size wr wr.drew:=(bR _ _).drew;refine(aap L0.calls (qa k) (qc k) wr.drew (ho2.below (HBq.out.trans (hbd.mono HBq.out.size)) (nR _)) hcl ho3).mono ?_;rintro e u' ⟨g,cap,rfl,h1,h2,h3,h4,h5⟩;have hb:=hbd.trans (h5.mono hbd.size);exact⟨g,cap,rfl,lH ⟨h1,h2,h3,h4,hb⟩,aoF hb r3 (nR _),aoF hb l3 (nR _),by rw[(ak hb).2 _ _ (HJ.out.z (by omega))];exact hlf⟩)
            have hlt':(k:Int)<(B.pairs.length:Int):=by omega
            have hk0:(0 :Int)<=(k:Int):=Int.natCast_nonneg _;clear ho2 ho3 hst1;subst hpad
            go_wp2_with fail
            go_region_with (go_simp;go_at_call 93;(with_reducible refine H115.out.mono ?_);rintro e u ⟨g,cap,rfl,hu,u2,u3,u4⟩)
            all_goals
              have HS:Hid (C2 wA B qa qc pb (fun i=>if i=k then g else cb i) (k+1) (u.setCell ⟨pb,k*3+2,none⟩ (sL (some ⟨g,0,none⟩) L0.calls.length cap))):=lH (HJ.out.step hpz HL.out hu.out.2.2.2.2 hu.out.1 hu.out.2.1 hu.out.2.2.1 hu.out.2.2.2.1);have HSR:Hid (bG (u.setCell ⟨pb,k*3+2,none⟩ (sL (some ⟨g,0,none⟩) L0.calls.length cap)) (some ⟨pb,0,none⟩)):=lH (jm _ _ (nS HRw.out hu.out.2.2.2.2));clear hu;go_wp2;go_roundw
              case rel=>exact⟨k+1,_,by omega,by go_num,HS.out,HSR.out,fun h=>absurd h (by omega)⟩
              case measure=>simp[intOf];omega
          · have hke:k=B.pairs.length:=by omega
            subst hke;have s2:=dG HJ.out.g q2 hsne;have s0:=dG HJ.out.g (dG HI.out.g HD.out.1 hne) hsne;have s1:=dG HJ.out.g (dG HI.out.g HD.out.2.1 hne) hsne;have hr:=HR.out.below H3.out.below HR.out.z;have n1:w.heap.size+1≠w.heap.size:=by omega
            have n2:w.heap.size+1≠lb:=by omega
            have n3:w.heap.size+1≠pb:=by omega
            have x0:=dG HJ.out.g (dG HI.out.g (HW1.out hr.c0 n1) n2) n3;have x1:=dG HJ.out.g (dG HI.out.g (HW1.out hr.c1 n1) n2) n3;have x2:=dG HJ.out.g (dG HI.out.g (HW1.out hr.c2 n1) n2) n3;have x3:=dG HJ.out.g (dG HI.out.g (HW1.out hr.c3 n1) n2) n3;have hf: ∀j,w3.frozen? ⟨w.heap.size+1,j,none⟩=false->wr.frozen? ⟨w.heap.size+1,j,none⟩=false:=fun j hj=>by
              have z1:=HI.out.g.size;rw[HS1.out] at z1;rw[EZ HJ.out.g (by omega) n3,EZ HI.out.g (by rw[HS1.out];omega) n2,HF1.out];exact hj
            have y0:=hf 0 hr.f0;have y1:=hf 1 hr.f1;have y2:=hf 2 hr.f2;have y3:=hf 3 hr.f3;clear hf hr;go_wp2;have zA:=HI.out.g.size;rw[HS1.out] at zA;have zR:=HJ.out.g.size;have kJ: ∀{b o:Nat} {v:vL},wA.cell? ⟨b,o,none⟩=some v->(1<=B.pairs.length->b≠pb)->wr.cell? ⟨b,o,none⟩=some v:=fun {b o v} h0 h1=>by
              by_cases h:B.pairs.length=0
              · rw[HNil.out h];exact h0
              · exact dG HJ.out.g h0 (h1 (by omega))
            have hpz:1<=B.pairs.length->pb<w3.heap.size:=fun h=>by
              obtain⟨p0,hp0⟩: ∃p0,B.pairs[0]? =some p0:=⟨_,lG (by omega)⟩;exact(H3.out.pairs 0 p0 hp0).2.1
            have far: ∀{b o:Nat} {v:vL},wr.cell? ⟨b,o,none⟩=some v->b≠w.heap.size+1->(((((wr.setCell ⟨w.heap.size+1,0,none⟩ (iN qi B.hours)).setCell ⟨w.heap.size+1,1,none⟩ (sL (some ⟨tb,0,none⟩) B.towns.length tcap)).setCell ⟨w.heap.size+1,2,none⟩ (sL (some ⟨lb,0,none⟩) B.links.length lcap)).setCell ⟨w.heap.size+1,3,none⟩ (sL pad B.pairs.length pcap))).cell? ⟨b,o,none⟩=some v:=fun h0 hne=>by
              rw[wF _ _ _ _ (Ne.symm hne),wF _ _ _ _ (Ne.symm hne),wF _ _ _ _ (Ne.symm hne),wF _ _ _ _ (Ne.symm hne)];exact h0
            obtain⟨ne1,ne2,ne3⟩:=H3.out.ne;have htl:=H3.out.tl;refine bodyPost_ret (v:= .agg #[iN qi B.hours,sL (some ⟨tb,0,none⟩) B.towns.length tcap,sL (some ⟨lb,0,none⟩) B.links.length lcap,sL pad B.pairs.length pcap]) (by simp[results,Tryd.results70,go_sem,x0,x1,x2,x3]) rfl
              ⟨⟨some ⟨tb,0,none⟩,some ⟨lb,0,none⟩,pad,tcap,lcap,pcap⟩,⟨tb,lb,pb,sb,cb⟩,rfl,⟨rfl,rfl,fun i p hp=>(H3.out.pairs i p hp).1,H3.out.pc,jm _ _ (jm _ _ (jm _ _ (jm _ _ HRw.out))),H3.out.tk,fun i t ht=> ?_,fun i L hL=> ?_,fun i L m x hL hx=> ?_,fun i p hp=> ?_,fun i p m x hp hx=> ?_,fun i p hp=> ?_,fun i p hp=> ?_,⟨by show w.heap.size<=tb;omega,by show w.heap.size<=lb;omega,by show w.heap.size<=pb;omega,fun i L hL=> ?_⟩⟩, ?_⟩
            · have qt:tb≠w.heap.size+1:=by omega
              have qt0:tb≠w.heap.size:=by omega
              exact far (dG HJ.out.g (dG HI.out.g (HW1.out (H3.out.towns i t ht) qt0) ne1) ne2) qt
            · have hi:=(lS.1 hL).1
              have ql:lb≠w.heap.size+1:=by omega
              obtain⟨a,b,c,_⟩:=HI.out.l i L hL;obtain⟨sc,d⟩:=c hi;exact⟨far (dG HJ.out.g a ne3) ql,far (dG HJ.out.g b ne3) ql,sc,far (dG HJ.out.g d ne3) ql⟩
            · have hi:=(lS.1 hL).1
              have hsb:=HI.out.s i hi;rw[HS1.out] at hsb;have qs:sb i≠w.heap.size+1:=by omega
              have qj:1<=B.pairs.length->sb i≠pb:=fun h=>by have:=hpz h;omega
              obtain⟨a,b⟩:=HI.out.t i L hL hi m x hx;exact⟨far (kJ a qj) qs,far (kJ b qj) qs⟩
            · have hi:=(lS.1 hp).1
              have qp:pb≠w.heap.size+1:=by omega
              obtain⟨a,b,c,_⟩:=HJ.out.l i p hp;obtain⟨sc,d⟩:=c hi;exact⟨far a qp,far b qp,sc,far d qp⟩
            · have hi:=(lS.1 hp).1
              have hcb:=HJ.out.s i hi;have qc1:cb i≠w.heap.size+1:=by omega
              obtain⟨a,_⟩:=HJ.out.t i p hp hi;exact⟨far (a m x hx).1 qc1,far (a m x hx).2 qc1⟩
            · have hi:=(lS.1 hp).1
              have hcb:=HJ.out.s i hi;obtain⟨_,a⟩:=HJ.out.t i p hp hi;exact⟨⟨by simp only[World.size_setCell];exact hcb.2.1,by show w.heap.size<=cb i;omega⟩,fun j=>by simp only[World.frozen?_setCell];exact a j⟩
            · have hi:=(lS.1 hp).1
              have hcb:=HJ.out.s i hi;have hth:=H3.out.th;have hlh:=H3.out.lh;have hpb3:pb<w3.heap.size:=hpz (by omega);refine⟨by show cb i≠tb;omega,by show cb i≠lb;omega,by show cb i≠pb;omega,fun j L hL=> ?_,fun j q hq hj=>hcb.2.2 j (lS.1 hq).1 hj⟩;have hsb:=HI.out.s j (lS.1 hL).1
              show cb i≠sb j
              omega
            · have hsb:=HI.out.s i (lS.1 hL).1
              rw[HS1.out] at hsb
              show w.heap.size<=sb i
              omega
            · exact(((HBq.out.setCell (p:=⟨w.heap.size+1,0,none⟩) (Nat.le_succ _) _).setCell (p:=⟨w.heap.size+1,1,none⟩) (Nat.le_succ _) _).setCell (p:=⟨w.heap.size+1,2,none⟩) (Nat.le_succ _) _).setCell (p:=⟨w.heap.size+1,3,none⟩) (Nat.le_succ _) _
  |_=>exact hq.elim
def upB (p:Int) (x:Int×Int):Int×Int:=(upC x.1 p,upC x.2 p)
def bQ (B:Bk) (p:Int):Bk:={B with pairs:=B.pairs.map fun q=>{q with calls:=q.calls.map (upB p)}}
structure Gr (B B':Bk) (p:Int) (i h:Nat):Prop where
 hours:B'.hours=B.hours
 towns:B'.towns=B.towns
 links:B'.links=B.links
 len:B'.pairs.length=B.pairs.length
 at_: ∀(j:Nat) (q:Pr),B.pairs[j]? =some q-> ∃q',B'.pairs[j]? =some q'/\q'.one=q.one/\q'.two=q.two/\q'.calls.length=q.calls.length/\ ∀m,q'.calls[m]? =if j<i\/(j=i/\m<h) then (q.calls[m]?).map (upB p) else q.calls[m]?
theorem Gr.start (B:Bk) (p:Int):Gr B B p 0 0:=⟨rfl,rfl,rfl,rfl,fun j q hq=>⟨q,hq,rfl,rfl,rfl,fun m=>by rw[if_neg (by omega)]⟩⟩
theorem Gr.next {B B':Bk} {p:Int} {i h:Nat} {q:Pr} (g:Gr B B' p i h) (hq:B.pairs[i]? =some q) (hh:q.calls.length<=h):Gr B B' p (i+1) 0:=⟨g.hours,g.towns,g.links,g.len,fun j r hr=>by
 obtain⟨q',h0,h1,h2,h3,h4⟩:=g.at_ j r hr;refine⟨q',h0,h1,h2,h3,fun m=> ?_⟩;rw[h4 m];by_cases hj:j<i
 ·rw[if_pos (.inl hj),if_pos (.inl (by omega))]
 ·by_cases e:j=i
  ·subst e;rw[hq] at hr
   cases hr
   by_cases hm:m<h
   ·rw[if_pos (.inr ⟨rfl,hm⟩),if_pos (.inl (Nat.lt_succ_self _))]
   ·rw[if_neg (by omega),if_pos (.inl (Nat.lt_succ_self _)),List.getElem?_eq_none (by omega)];rfl
  ·rw[if_neg (by omega),if_neg (by omega)]⟩
theorem Gr.step {B B':Bk} {p:Int} {i h:Nat} {q:Pr} {x:Int×Int} (g:Gr B B' p i h) (hq:B.pairs[i]? =some q) (hx:q.calls[h]? =some x):Gr B (fD B' i h (upB p x)) p i (h+1):=
 ⟨g.hours,g.towns,g.links,by show (List.modify _ _ _).length=_;rw[List.length_modify];exact g.len,fun j r hr=>by
  obtain⟨q',h0,h1,h2,h3,h4⟩:=g.at_ j r hr;have hs: ∃q2,(fD B' i h (upB p x)).pairs[j]? =some q2:=by
   have:j<(fD B' i h (upB p x)).pairs.length:=by
    show j<(List.modify _ _ _).length
    rw[List.length_modify];exact(lS.1 h0).1
   exact⟨_,lG this⟩
  obtain⟨q2,hq2⟩:=hs;obtain⟨q3,e0,e1,e2,e3,e4⟩:=mO hq2;rw[h0] at e0
  cases e0
  refine⟨q2,hq2,e1.trans h1,e2.trans h2,e3.trans h3,fun m=> ?_⟩;rw[e4 m,h4 m];by_cases hj:j=i
  ·subst hj;rw[hq] at hr
   cases hr
   by_cases hm:m=h
   ·subst hm;have hl:=(lS.1 hx).1;rw[if_pos ⟨rfl,rfl,by omega⟩,if_pos (.inr ⟨rfl,by omega⟩),hx];rfl
   ·rw[if_neg (by rintro⟨_,e,_⟩;exact hm e)];by_cases hm2:m<h
    ·rw[if_pos (.inr ⟨rfl,hm2⟩),if_pos (.inr ⟨rfl,by omega⟩)]
    ·rw[if_neg (by omega),if_neg (by omega)]
  ·rw[if_neg (by rintro⟨e,_⟩;exact hj e)];by_cases hj2:j<i
   ·rw[if_pos (.inl hj2),if_pos (.inl hj2)]
   ·rw[if_neg (by omega),if_neg (by omega)]⟩
theorem Gr.all {B B':Bk} {p:Int} {i:Nat} (g:Gr B B' p i 0) (hi:B.pairs.length<=i):B'=bQ B p:=by
 obtain⟨hh,tt,ll,pp⟩:=B';have h1:=g.hours;have h2:=g.towns;have h3:=g.links;simp only at h1 h2 h3;subst h1 h2 h3;have h4:pp=B.pairs.map fun q=>{q with calls:=q.calls.map (upB p)}:=by
  refine List.ext_getElem? fun j=> ?_;rw[List.getElem?_map]
  cases hq:B.pairs[j]? with
  |none=>
   have hl:=g.len;simp only at hl;rw[List.getElem?_eq_none (by rw[hl];simpa using hq)];rfl
  |some q=>
   obtain⟨q',h0,e1,e2,e3,e4⟩:=g.at_ j q hq;simp only at h0;rw[h0];have hj:=(lS.1 hq).1;obtain⟨o,t,c⟩:=q';simp only at e1 e2 e4;have hc:c=q.calls.map (upB p):=List.ext_getElem? fun m=>by rw[e4 m,if_pos (.inl (by omega)),List.getElem?_map]
   rw[e1,e2,hc];rfl
 rw[h4];rfl
theorem Gr.pair {B B':Bk} {p:Int} {i h:Nat} {q:Pr} {x:Int×Int} (g:Gr B B' p i h) (hq:B.pairs[i]? =some q) (hx:q.calls[h]? =some x): ∃q',B'.pairs[i]? =some q'/\q'.calls.length=q.calls.length/\q'.calls[h]? =some x:=by
 obtain⟨q',h0,h1,h2,h3,h4⟩:=g.at_ i q hq;exact⟨q',h0,h3,by rw[h4 h,if_neg (by omega)];exact hx⟩
end Go.Proofs.YtfiiffnbggnkfaaDoor
