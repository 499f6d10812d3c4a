/- A part of the proof of a law; no conditions of its own. -/
import Derived.Test.YtaikibfkggglgaaDoorNews01
set_option maxRecDepth 100000
open Go renaming undef→ud
open Nat renaming le_refl→nR
open Go.Lib renaming hid→lH
open Go.Proofs.Tryd renaming prog→tP
open List renaming getElem?_eq_getElem→lG
open Go.World renaming cell?_setCell_other→wO
open Go.World renaming cell?_setCell_far→wF
set_option maxHeartbeats 4000000
namespace Go.Proofs.YtaikibfkggglgaaDoor
open Go.RowKit Go.Rent Go.Tp Go.Conc
theorem ahg {nt hours:Int}: ∀(ps qs:List Pr) (S:List (Int×Int)),qs.length=ps.length->(∀(i:Nat) (p q:Pr),ps[i]? =some p->qs[i]? =some q->q.one=p.one/\q.two=p.two/\q.calls.length=p.calls.length/\jc q.calls=false)->fP nt hours S ps=0->fP nt hours S qs=0
 | [],[],_,_,_,_=>rfl
 | [],q::qs,_,h,_,_=>by simp at h
 |p::ps,[],_,h,_,_=>by simp at h
 |p::ps,q::qs,S,h,hp,h0=>by
  obtain⟨e1,e2,e3,e4⟩:=hp 0 p q rfl rfl;unfold fP at h0 ⊢;rw[e1,e2,e3]
  split at h0
  ·cases h0
  rename_i c1;rw[if_neg c1]
  split at h0
  ·cases h0
  rename_i c2;rw[if_neg c2]
  split at h0
  ·cases h0
  rename_i c3;rw[if_neg c3]
  split at h0
  ·rename_i c4;rw[if_pos c4]
   split at h0
   ·cases h0
   rw[if_neg (by rw[e4];decide)];exact ahg ps qs _ (by simpa using h) (fun i a b ha hb=>hp (i+1) a b (by simpa using ha) (by simpa using hb)) h0
  ·cases h0
theorem aho {A B:Bk} (hA:A.alarm=0) (e1:B.hours=A.hours) (e2:B.towns=A.towns) (e3:B.links=A.links) (e4:B.pairs.length=A.pairs.length) (e5: ∀(i:Nat) (p q:Pr),A.pairs[i]? =some p->B.pairs[i]? =some q->q.one=p.one/\q.two=p.two/\q.calls.length=p.calls.length/\jc q.calls=false):B.alarm=0:=by
 obtain⟨h0,h1,h2,h3⟩:=GX hA;rw[agq (by rw[e1];exact h0) (by rw[e2];exact h1) (by rw[e2,e3];exact h2),e1,e2];unfold dR at h3 ⊢;rw[e4]
 split at h3
 ·cases h3
 ·rename_i c;rw[if_neg c];exact ahg _ _ _ e4 e5 h3
theorem ag9 (B:Bk) (i h:Nat) (y:Int×Int):(fD B i h y).pairs.length=B.pairs.length:=by show (List.modify _ _ _).length=_;rw[List.length_modify]
theorem aha {B:Bk} {i h j:Nat} {y:Int×Int} {p q:Pr} (hp:B.pairs[j]? =some p) (hq:(fD B i h y).pairs[j]? =some q):q.one=p.one/\q.two=p.two/\q.calls.length=p.calls.length/\ ∀m,q.calls[m]? =if j=i/\m=h/\m<p.calls.length then some y else p.calls[m]? :=by
 obtain⟨q3,e0,e1,e2,e3,e4⟩:=mO hq;rw[hp] at e0
 cases e0
 exact⟨e1,e2,e3,fun m=>by rw[e4 m]⟩
theorem ahp {l:List (Int×Int)}:jc l=false↔ ∀(m:Nat) (x:Int×Int),l[m]? =some x->dw x=true:=by
 unfold jc;rw[List.any_eq_false];constructor
 ·intro h m x hx;have:=h x (List.mem_of_getElem? hx);simpa using this
 ·intro h x hx;obtain⟨m,hm,rfl⟩:=List.getElem_of_mem hx;rw[h m _ (lG hm)]
  decide
theorem ahq {B:Bk} (hB:B.alarm=0) {i h:Nat} {y:Int×Int} (hy:dw y=true):(fD B i h y).alarm=0:=by
 refine aho hB rfl rfl rfl (ag9 B i h y) fun j p q hp hq=> ?_;obtain⟨e1,e2,e3,e4⟩:=aha hp hq;refine⟨e1,e2,e3,ahp.2 fun m x hx=> ?_⟩;rw[e4 m] at hx
 split at hx
 ·cases hx;exact hy
 ·have:=((gY hB).fine.calls j p hp).2 m x hx;simpa[dw] using this
theorem ahr (B:Bk) (i h:Nat) (y:Int×Int):Alike B (fD B i h y):=by
 refine⟨rfl,rfl,rfl,ag9 B i h y,fun j=> ?_,fun j=> ?_⟩
 all_goals
  rcases afZ (ag9 B i h y) j with ⟨p,q,h1,h2⟩ |⟨h1,h2⟩
 ·unfold Bk.pone;rw[h1,h2];exact(aha h1 h2).1
 ·unfold Bk.pone;rw[h1,h2]
 ·unfold Bk.ptwo;rw[h1,h2];exact(aha h1 h2).2.1
 ·unfold Bk.ptwo;rw[h1,h2]
theorem ahs {B:Bk} {i h:Nat} {y:Int×Int} {L:Nat} {p:Pr} (hp:B.pairs[i]? =some p) (hL:p.calls.length=L) (hh:h<L) (most:Bool) (g j:Nat):(fD B i h y).call most g j=if j=i/\g=h then (if most then y.2 else y.1) else B.call most g j:=by
 unfold Bk.call
 rcases afZ (ag9 B i h y) j with ⟨a,b,h1,h2⟩ |⟨h1,h2⟩
 ·obtain⟨e1,e2,e3,e4⟩:=aha h1 h2;rw[h1,h2];simp only[Option.bind_some];rw[e4 g];by_cases c:j=i/\g=h
  ·obtain⟨rfl,rfl⟩:=c;rw[hp] at h1
   cases h1
   rw[if_pos ⟨rfl,rfl,by omega⟩,if_pos ⟨rfl,rfl⟩]
  ·rw[if_neg (fun k=>c ⟨k.1,k.2.1⟩),if_neg c]
 ·rw[h1,h2];by_cases c:j=i/\g=h
  ·obtain⟨rfl,rfl⟩:=c;rw[hp] at h1;cases h1
  ·rw[if_neg c]
theorem aht {B:Bk} {i h:Nat} {p:Pr} (hp:B.pairs[i]? =some p) (hh:h<p.calls.length) (most:Bool):B.call most h i=if most then (iD B i h).2 else (iD B i h).1:=by
 unfold Bk.call iD;have hx:p.calls[h]? =some p.calls[h]:=lG hh;rw[hp];simp only[Option.bind_some,hx,Option.getD_some]
theorem narrow {B:Bk} (hB:B.alarm=0) {i h:Nat} {y:Int×Int} (hi:i<B.pairs.length) (hh:(h:Int)<B.hours) (h1:(iD B i h).1<=y.1) (h2:y.2<=(iD B i h).2):
  (∀g j,(fD B i h y).call true g j<=B.call true g j)/\ ∀g j,B.call false g j<=(fD B i h y).call false g j:=by
 have hp:=lG hi;have hL:=((gY hB).fine.calls i _ hp).1;have hh2:h<B.pairs[i].calls.length:=by omega
 refine⟨fun g j=> ?_,fun g j=> ?_⟩
 all_goals
  rw[ahs hp rfl hh2]
  split
  ·rename_i c;obtain⟨rfl,rfl⟩:=c;rw[aht hp hh2];simpa
  ·exact Int.le_refl _
theorem ahh {B:Bk} (hB:B.alarm=0) {i h:Nat} (hi:i<B.pairs.length) (hh:(h:Int)<B.hours):0<=(iD B i h).1/\(iD B i h).1<=(iD B i h).2/\(iD B i h).2<=5:=by
 have hp:=lG hi;have hL:=(gY hB).fine.calls i _ hp;have hh2:h<B.pairs[i].calls.length:=by have:=hL.1;omega
 have hx:B.pairs[i].calls[h]? =some B.pairs[i].calls[h]:=lG hh2;have:iD B i h=B.pairs[i].calls[h]:=by unfold iD;rw[hp,Option.bind_some,hx];rfl
 rw[this];exact hL.2 h _ hx
theorem ahu {B O:Bk} (s:Alike B O) (hB:B.alarm=0) (hO:O.alarm=0) (h1: ∀g j,O.call true g j<=B.call true g j) (h2: ∀g j,B.call false g j<=O.call false g j) {T:Nat->Int} (hT: ∀k,0<=T k):
  (aC O aT).2<=(aC B aT).2/\(aQ B T B.hours.toNat 0 1≠0->aQ B T B.hours.toNat 0 1=aQ O T O.hours.toNat 0 1)/\ ∀g k,B.inn T false g k<=O.inn T false g k/\O.inn T true g k<=B.inn T true g k:=by
 have s':Alike O B:=⟨s.hours.symm,s.towns.symm,s.links.symm,s.len.symm,fun i=>(s.one i).symm,fun i=>(s.two i).symm⟩;refine⟨agG s' hO hB h1,fun hc=> ?_,fun g k=>⟨agE s hB hO hT false g (fun i _=>h2 g i) k,agE s' hO hB hT true g (fun i _=>h1 g i) k⟩⟩
 rcases abV B T B.hours.toNat 0 1 (.inr rfl) with e |e |e
 ·exact absurd e hc
 ·rw[e,agm s' hO hB hT h1 e]
 ·rw[e];obtain⟨g,_,hg,h3⟩:=(abU B T _ _ _ (by decide)).1 e;refine((abU O T _ _ _ (by decide)).2 ⟨g,Nat.zero_le _,by rw[s.hours];exact hg, ?_⟩).symm;by_cases h4:O.lackIn T false g<0
  ·have:=agF s hB hO hT false (fun i=>h2 g i) h4;omega
  ·omega
def ag4 (B:Bk) (i h:Nat) (x1 x2:Int):Int×Int:=(max (iD B i h).1 x1,min (iD B i h).2 x2)
def ahi:Value:= .agg #[.int .i64 0,.slice none 0 0,.slice none 0 0,.slice none 0 0]
def ahv (B:Bk) (i h:Nat) (x1 x2:Int) (w:World) (e:Ending) (w':World):Prop:=
  ((dw (x1,x2)=false/\e= .returned (.tuple #[ahi,.int .i64 1]))\/
   (dw (x1,x2)=true/\(ag4 B i h x1 x2).2<(ag4 B i h x1 x2).1/\e= .returned (.tuple #[ahi,.int .i64 10]))\/
   (dw (x1,x2)=true/\(ag4 B i h x1 x2).1<=(ag4 B i h x1 x2).2/\ ∃V' O,e= .returned (.tuple #[V'.val B,.int .i64 0])/\bI w' w.heap.size V' (fD B i h (ag4 B i h x1 x2)) O))/\Below w.heap.size w w'
theorem c53 (V:BkV) (B:Bk) (i h:Nat) (x1 x2:Int) (w:World) (hs:aB w V B) (hv:Vars w) (hpc:V.pa=none->V.pc=0) (hA:B.alarm=0) (hi:i<B.pairs.length) (hh:(h:Int)<B.hours):
  Calls tP 53 #[V.val B,.int .i64 (i:Int),.int .i64 (h:Int),.agg #[.int .i64 x1,.int .i64 x2]] w (ahv B i h x1 x2 w):=by
 obtain⟨ta,la,pa,tc,lc,pc⟩:=V;have hG:=gY hA;have hp1:=hG.fine.pairs;have hh1:=hG.fine.hours;have hbi:btw (i:Int) 0 ((B.pairs.length:Int)-1)=true:=by unfold btw;simp;omega
 have hth:bP B (h:Int)=true:=by
  unfold bP;rw[show RowKit.wrap64 (B.hours-1)=B.hours-1 from IntWalk.wrap64_in _ (by omega)];simp[btw];omega
 have hal:fF B (bP B (h:Int))=0:=by rw[hth];simp[fF,hA]
 have hres:bU ⟨ta,la,pa,tc,lc,pc⟩ B (fF B (bP B (h:Int)))= .tuple #[.agg #[.int .i64 B.hours,.slice ta B.towns.length tc,.slice la B.links.length lc,.slice pa B.pairs.length pc],.int .i64 0]:=by rw[hal];rfl
 have hp0:B.pairs[i]? =some B.pairs[i]:=lG hi;have hL:=(hG.fine.calls i _ hp0).1;have hh2:h<B.pairs[i].calls.length:=by omega
 have hqx:B.pairs[i].calls[h]? =some (iD B i h):=by
  unfold iD;rw[hp0,Option.bind_some,lG hh2];rfl
 have Hbb:=lH (ahh hA hi hh);have Hs:=lH hs;have Hv:=lH hv;have Hpc:=lH hpc;have HG:=lH hG;have Hres:=lH hres;have Hbi:=lH hbi;have HK:Hid (ag4 B i h x1 x2=(max (iD B i h).1 x1,min (iD B i h).2 x2)):=lH rfl;have Hq:=lH (And.intro hp0 (And.intro hh2 hqx));have hpl:(B.pairs[i].calls.length:Int)=B.hours:=hL;generalize hpi:B.pairs[i]=pi at *;clear hs hv hpc hG hres hbi hal hth hA hp0 hqx hpi hL;go_enter Tryd.func53,Tryd.ntmps53
 go_wp2_with fail
 generalize hWd:((w.alloc (.cells #[.int .i64 B.hours,.slice ta B.towns.length tc,.slice la B.links.length lc,.slice pa B.pairs.length pc] 26)).alloc (.cells #[.int .i64 x1,.int .i64 x2] 53)).alloc (.cells #[.int .i64 0,.slice none 0 0,.slice none 0 0,.slice none 0 0] 26)=W;have HBW:Hid (Below w.heap.size w W):=lH (by subst hWd;exact(((Below.refl _ _).alloc (nR _) _).alloc (by simp) _).alloc (by simp;omega) _);have HZ:Hid (W.heap.size=w.heap.size+3):=lH (by subst hWd;simp);have k0:W.cell? ⟨w.heap.size,0,none⟩=some (.int .i64 B.hours):=by subst hWd;go_simp
 have k1:W.cell? ⟨w.heap.size,1,none⟩=some (.slice ta B.towns.length tc):=by subst hWd;go_simp
 have k2:W.cell? ⟨w.heap.size,2,none⟩=some (.slice la B.links.length lc):=by subst hWd;go_simp
 have k3:W.cell? ⟨w.heap.size,3,none⟩=some (.slice pa B.pairs.length pc):=by subst hWd;go_simp
 have HX:Hid (W.cell? ⟨w.heap.size+1,0,none⟩=some (.int .i64 x1)/\W.cell? ⟨w.heap.size+1,1,none⟩=some (.int .i64 x2)):=lH (by subst hWd;exact⟨by go_simp,by go_simp⟩);have HR:Hid (dW W (w.heap.size+2) (.int .i64 0) (.slice none 0 0) (.slice none 0 0) (.slice none 0 0)):=lH (by subst hWd;exact⟨by simp,by go_simp,by go_simp,by go_simp,by go_simp,by go_simp,by go_simp,by go_simp,by go_simp⟩);clear hWd;refine Code.wp_mono ?_ (ahl ta la pa tc lc pc B (i:Int) (h:Int) Hbi.out w W _ _ Hs.out Hv.out HBW k0 k1 k2 k3 B.hours ta la pa tc lc pc B.towns.length B.links.length B.pairs.length 0 Hres.out);rintro e a w' hq
 cases e with
 |normal=>
  obtain⟨b8,rfl,hb8,hbel,hrow⟩:=hq;have hz:=HZ.out;have b1:=ak hbel;have q0:=(b1.1 (w.heap.size+1) 0 (by omega)).trans HX.out.1;have q1:=(b1.1 (w.heap.size+1) 1 (by omega)).trans HX.out.2;have HRow:=lH hrow;have HBw':=lH hbel;have Hb8:=lH hb8;clear k0 k1 k2 k3 b1 hbel hrow hb8
  go_wp2_with fail
  refine(c90 x1 x2 _).mono ?_;rintro e w2 ⟨rfl,hb2⟩;have HB2:Hid (Below W.heap.size W w2):=lH (HBw'.out.trans (hb2.mono HBw'.out.size));have HRw2:=lH (HRow.out.below hb2 HRow.out.z);clear hb2 q0 q1;by_cases hbo:dw (x1,x2)=true
  ·obtain⟨z8,c0,c1,c2,c3,f0,f1,f2,f3⟩:=HRw2.out;have Hbo:=lH hbo;rw[hbo];have hbx:0<=x1/\x1<=x2/\x2<=5:=by simpa[dw] using hbo
   clear hbo
   go_wp2_with fail
   refine(c91 ⟨ta,la,pa,tc,lc,pc⟩ B HG.out w2 ((Hs.out.below HBW.out (nR _)).below HB2.out (nR _)) Hpc.out).mono ?_;rintro e w3 ⟨V1,O,rfl,hO,hb3⟩;obtain⟨va,vl,vp,vtc,vlc,vpc⟩:=V1;have hr3:=HRw2.out.below hb3 HRw2.out.z;have HZ2:=lH HB2.out.size;have HO:=lH hO;have Hb3:=lH hb3;clear hO hb3 c0 c1 c2 c3 f0 f1 f2 f3 z8;obtain⟨z8,c0,c1,c2,c3,f0,f1,f2,f3⟩:=hr3;have hb8:=Hb8.out;have z8':b8<w2.heap.size:=HRw2.out.z;have hpa:=HO.out.pa i pi Hq.out.1;simp only at hpa;subst hpa;have HO1:Hid (bI ((((w3.setCell ⟨b8,0,none⟩ (.int .i64 B.hours)).setCell ⟨b8,1,none⟩ (.slice va B.towns.length vtc)).setCell ⟨b8,2,none⟩ (.slice vl B.links.length vlc)).setCell ⟨b8,3,none⟩ (.slice (some ⟨O.pb,0,none⟩) B.pairs.length vpc)) w2.heap.size ⟨va,vl,some ⟨O.pb,0,none⟩,vtc,vlc,vpc⟩ B O):=lH ((((HO.out.far _ z8').far _ z8').far _ z8').far _ z8');obtain⟨_,_,sc,l2⟩:=HO1.out.pairs i pi Hq.out.1;obtain⟨d0,d1⟩:=HO1.out.calls i pi h _ Hq.out.1 Hq.out.2.2;have hfr:=(HO1.out.free i pi Hq.out.1).2;have Hcb:=lH (HO1.out.free i pi Hq.out.1).1;have e0:=hfr (h*2);have e1:=hfr (h*2+1);have hzp:=HO.out.lo.2.2.1;have hcb:=(HO.out.free i pi Hq.out.1).1.2;have hi':(i:Int)<(B.pairs.length:Int):=by omega
   have hi0:(0 :Int)<=(i:Int):=Int.natCast_nonneg _;have hh0:(0 :Int)<=(h:Int):=Int.natCast_nonneg _;have hhL:(h:Int)<(pi.calls.length:Int):=by omega
   have hz2:=HZ2.out;have y0:=((ak Hb3.out).1 (w.heap.size+1) 0 (by omega)).trans (((ak HB2.out).1 (w.heap.size+1) 0 (by omega)).trans HX.out.1);have y1:=((ak Hb3.out).1 (w.heap.size+1) 1 (by omega)).trans (((ak HB2.out).1 (w.heap.size+1) 1 (by omega)).trans HX.out.2);clear hfr
   go_wp2_with fail
   have HB8:Hid (Below W.heap.size W ((((w3.setCell ⟨b8,0,none⟩ (.int .i64 B.hours)).setCell ⟨b8,1,none⟩ (.slice va B.towns.length vtc)).setCell ⟨b8,2,none⟩ (.slice vl B.links.length vlc)).setCell ⟨b8,3,none⟩ (.slice (some ⟨O.pb,0,none⟩) B.pairs.length vpc))):=lH (((((HB2.out.trans (Hb3.out.mono HB2.out.size)).setCell (p:=⟨b8,0,none⟩) hb8 _).setCell (p:=⟨b8,1,none⟩) hb8 _).setCell (p:=⟨b8,2,none⟩) hb8 _).setCell (p:=⟨b8,3,none⟩) hb8 _);have HXX:Hid (((((w3.setCell ⟨b8,0,none⟩ (.int .i64 B.hours)).setCell ⟨b8,1,none⟩ (.slice va B.towns.length vtc)).setCell ⟨b8,2,none⟩ (.slice vl B.links.length vlc)).setCell ⟨b8,3,none⟩ (.slice (some ⟨O.pb,0,none⟩) B.pairs.length vpc)).cell? ⟨w.heap.size+1,0,none⟩=some (.int .i64 x1)/\((((w3.setCell ⟨b8,0,none⟩ (.int .i64 B.hours)).setCell ⟨b8,1,none⟩ (.slice va B.towns.length vtc)).setCell ⟨b8,2,none⟩ (.slice vl B.links.length vlc)).setCell ⟨b8,3,none⟩ (.slice (some ⟨O.pb,0,none⟩) B.pairs.length vpc)).cell? ⟨w.heap.size+1,1,none⟩=some (.int .i64 x2)):=lH ⟨((ak HB8.out).1 (w.heap.size+1) 0 (by omega)).trans HX.out.1,((ak HB8.out).1 (w.heap.size+1) 1 (by omega)).trans HX.out.2⟩;have HH8:Hid (((((w3.setCell ⟨b8,0,none⟩ (.int .i64 B.hours)).setCell ⟨b8,1,none⟩ (.slice va B.towns.length vtc)).setCell ⟨b8,2,none⟩ (.slice vl B.links.length vlc)).setCell ⟨b8,3,none⟩ (.slice (some ⟨O.pb,0,none⟩) B.pairs.length vpc)).cell? ⟨b8,0,none⟩=some (.int .i64 B.hours)/\((((w3.setCell ⟨b8,0,none⟩ (.int .i64 B.hours)).setCell ⟨b8,1,none⟩ (.slice va B.towns.length vtc)).setCell ⟨b8,2,none⟩ (.slice vl B.links.length vlc)).setCell ⟨b8,3,none⟩ (.slice (some ⟨O.pb,0,none⟩) B.pairs.length vpc)).cell? ⟨b8,1,none⟩=some (.slice va B.towns.length vtc)/\((((w3.setCell ⟨b8,0,none⟩ (.int .i64 B.hours)).setCell ⟨b8,1,none⟩ (.slice va B.towns.length vtc)).setCell ⟨b8,2,none⟩ (.slice vl B.links.length vlc)).setCell ⟨b8,3,none⟩ (.slice (some ⟨O.pb,0,none⟩) B.pairs.length vpc)).cell? ⟨b8,2,none⟩=some (.slice vl B.links.length vlc)/\((((w3.setCell ⟨b8,0,none⟩ (.int .i64 B.hours)).setCell ⟨b8,1,none⟩ (.slice va B.towns.length vtc)).setCell ⟨b8,2,none⟩ (.slice vl B.links.length vlc)).setCell ⟨b8,3,none⟩ (.slice (some ⟨O.pb,0,none⟩) B.pairs.length vpc)).cell? ⟨b8,3,none⟩=some (.slice (some ⟨O.pb,0,none⟩) B.pairs.length vpc)):=lH ⟨by go_simp,by go_simp,by go_simp,by go_simp⟩;generalize hW1:((((w3.setCell ⟨b8,0,none⟩ (.int .i64 B.hours)).setCell ⟨b8,1,none⟩ (.slice va B.towns.length vtc)).setCell ⟨b8,2,none⟩ (.slice vl B.links.length vlc)).setCell ⟨b8,3,none⟩ (.slice (some ⟨O.pb,0,none⟩) B.pairs.length vpc))=W1 at *;clear hW1 l2 c0 c1 c2 c3 f0 f1 f2 f3 y0 y1 z8;obtain⟨y0,y1⟩:=HXX.out;have hn8:w.heap.size+1≠O.cb i:=by omega
   have hzc:=Hcb.out.1;obtain⟨o1,o2,hoo⟩: ∃o1 o2,iD B i h=(o1,o2):=⟨_,_,rfl⟩;have hbb:=Hbb.out;have Hk2:=HK.out;have Hq2:=Hq.out;rw[hoo] at hbb Hk2 d0 d1;simp only at hbb Hk2 d0 d1;have HKn:=lH Hk2;have w1r:(if o1<x1 then x1 else o1)=max o1 x1:=by split<;>omega
   have w2r:(if x2<o2 then x2 else o2)=min o2 x2:=by split<;>omega
   have HS:Hid (∀y1 y2:Int,bI ((W1.setCell ⟨O.cb i,h*2,none⟩ (.int .i64 y1)).setCell ⟨O.cb i,h*2+1,none⟩ (.int .i64 y2)) w2.heap.size ⟨va,vl,some ⟨O.pb,0,none⟩,vtc,vlc,vpc⟩ (fD B i h (y1,y2)) O):=lH fun y1 y2=>HO1.out.store Hq.out.1 Hq.out.2.1 (y1,y2);have HBS:Hid (∀y1 y2:Int,Below W.heap.size W ((W1.setCell ⟨O.cb i,h*2,none⟩ (.int .i64 y1)).setCell ⟨O.cb i,h*2+1,none⟩ (.int .i64 y2))):=lH fun y1 y2=>(HB8.out.setCell (p:=⟨O.cb i,h*2,none⟩) (Nat.le_trans HB2.out.size Hcb.out.2) _).setCell (p:=⟨O.cb i,h*2+1,none⟩) (Nat.le_trans HB2.out.size Hcb.out.2) _;have hn2:b8≠O.cb i:=by omega
   clear Hk2 Hq2;refine ahn 17 17 (by kernel_rfl) ?_
   change LaB _ _ _ _ _ _ _ W1.drew
   refine ag5 0 (.pointer (some ⟨O.cb i,h*2,none⟩)) ?_ (hr:=by go_simp);refine ag5 1 (.pointer (some ⟨O.cb i,h*2,none⟩)) ?_ (hr:=by go_simp);refine ag5 2 (.pointer (some ⟨O.cb i,h*2,none⟩)) ?_ (hr:=by go_simp);refine ag5 3 (.pointer (some ⟨O.cb i,h*2,none⟩)) ?_ (hr:=by go_simp);refine ag5 4 (.int .i64 o1) ?_ (hr:=by go_simp);refine ag5 5 (.pointer (some ⟨w.heap.size+1,0,none⟩)) ?_ (hr:=by go_simp);refine ag5 6 (.int .i64 x1) ?_ (hr:=by go_simp);refine ag5 7 (.int .i64 (max o1 x1)) ?_ (hr:=by go_simp);refine ag5 8 (.pointer (some ⟨O.cb i,h*2,none⟩)) ?_ (hr:=by go_simp);refine ag5 9 (.pointer (some ⟨O.cb i,h*2,none⟩)) ?_ (hr:=by go_simp);refine ag5 10 (.pointer (some ⟨O.cb i,h*2+1,none⟩)) ?_ (hr:=by go_simp);refine ag5 11 (.int .i64 o2) ?_ (hr:=by go_simp);refine ag5 12 (.pointer (some ⟨w.heap.size+1,1,none⟩)) ?_ (hr:=by go_simp);refine ag5 13 (.int .i64 x2) ?_ (hr:=by go_simp);refine ag5 14 (.int .i64 (min o2 x2)) ?_ (hr:=by go_simp);refine ag5 15 (.agg #[.int .i64 (max o1 x1),.int .i64 (min o2 x2)]) ?_ (hr:=by go_simp);refine ag5 16 (.pointer (some ⟨O.cb i,h*2,none⟩)) ?_ (hr:=by go_simp);simp only[Act.put,List.setIfInBounds_toArray];refine⟨by kernel_rfl,by kernel_rfl,wpOp_step rfl fun K hK=> ?_⟩;go_simp;refine hK _ _ ?_;clear hK;have m0:((W1.setCell ⟨O.cb i,h*2,none⟩ (.int .i64 (max o1 x1))).setCell ⟨O.cb i,h*2+1,none⟩ (.int .i64 (min o2 x2))).cell? ⟨O.cb i,h*2,none⟩=some (.int .i64 (max o1 x1)):=by
    rw[wO _ _ _ _ (by intro e;simp only[Addr.mk.injEq] at e;omega)];exact World.cell?_setCell_same _ _ _ d0
   have m1:((W1.setCell ⟨O.cb i,h*2,none⟩ (.int .i64 (max o1 x1))).setCell ⟨O.cb i,h*2+1,none⟩ (.int .i64 (min o2 x2))).cell? ⟨O.cb i,h*2+1,none⟩=some (.int .i64 (min o2 x2)):=by
    refine World.cell?_setCell_same _ _ _ (?_: _=some (.int .i64 o2));rw[wO _ _ _ _ (by intro e;simp only[Addr.mk.injEq] at e;omega)];exact d1
   have HH6:Hid (((W1.setCell ⟨O.cb i,h*2,none⟩ (.int .i64 (max o1 x1))).setCell ⟨O.cb i,h*2+1,none⟩ (.int .i64 (min o2 x2))).cell? ⟨b8,0,none⟩=some (.int .i64 B.hours)/\((W1.setCell ⟨O.cb i,h*2,none⟩ (.int .i64 (max o1 x1))).setCell ⟨O.cb i,h*2+1,none⟩ (.int .i64 (min o2 x2))).cell? ⟨b8,1,none⟩=some (.slice va B.towns.length vtc)/\((W1.setCell ⟨O.cb i,h*2,none⟩ (.int .i64 (max o1 x1))).setCell ⟨O.cb i,h*2+1,none⟩ (.int .i64 (min o2 x2))).cell? ⟨b8,2,none⟩=some (.slice vl B.links.length vlc)/\((W1.setCell ⟨O.cb i,h*2,none⟩ (.int .i64 (max o1 x1))).setCell ⟨O.cb i,h*2+1,none⟩ (.int .i64 (min o2 x2))).cell? ⟨b8,3,none⟩=some (.slice (some ⟨O.pb,0,none⟩) B.pairs.length vpc)):=lH (by
    obtain⟨a0,a1,a2,a3⟩:=HH8.out;refine⟨?_, ?_, ?_, ?_⟩
    all_goals
     rw[wF _ _ _ _ (Ne.symm hn2),wF _ _ _ _ (Ne.symm hn2)];assumption)
   have hs6:=HS.out (max o1 x1) (min o2 x2);have hb6:=HBS.out (max o1 x1) (min o2 x2);generalize hW6:((W1.setCell ⟨O.cb i,h*2,none⟩ (.int .i64 (max o1 x1))).setCell ⟨O.cb i,h*2+1,none⟩ (.int .i64 (min o2 x2)))=W6 at *;have HS6:=lH hs6;have HB6:=lH hb6;have b1:=ak hb6;have r0:=(b1.1 (w.heap.size+2) 0 (by omega)).trans HR.out.c0;have r1:=(b1.1 (w.heap.size+2) 1 (by omega)).trans HR.out.c1;have r2:=(b1.1 (w.heap.size+2) 2 (by omega)).trans HR.out.c2;have r3:=(b1.1 (w.heap.size+2) 3 (by omega)).trans HR.out.c3;have g0:=(b1.2 (w.heap.size+2) 0 (by omega)).trans HR.out.f0;have g1:=(b1.2 (w.heap.size+2) 1 (by omega)).trans HR.out.f1;have g2:=(b1.2 (w.heap.size+2) 2 (by omega)).trans HR.out.f2;have g3:=(b1.2 (w.heap.size+2) 3 (by omega)).trans HR.out.f3;have n3:w.heap.size<=w.heap.size+2:=by omega
   have n4:w.heap.size+2<w2.heap.size:=by omega
   have n5:w.heap.size<=w2.heap.size:=by omega
   obtain⟨a0,a1,a2,a3⟩:=HH6.out;have Hm0:=lH d0;clear hs6 hb6 hW6 b1 d0 d1 e0 e1 y0 y1 HS HBS w1r w2r hpl hi' hi0 hh0 hhL hbb hoo;by_cases hgt:min o2 x2<max o1 x1
   ·have Hgt:Hid ((ag4 B i h x1 x2).2<(ag4 B i h x1 x2).1):=lH (by rw[HKn.out];exact hgt);clear a0 a1 a2 a3
    go_wp2_with fail
    go_region
    go_wp2;refine bodyPost_ret (v:= .tuple #[.agg #[.int .i64 0,.slice none 0 0,.slice none 0 0,.slice none 0 0],.int .i64 10]) (by simp[results,Tryd.results53,go_sem,r0,r1,r2,r3]) rfl ⟨.inr (.inl ⟨Hbo.out,Hgt.out,rfl⟩), ?_⟩;exact(((((HBW.out.trans (HB6.out.mono HBW.out.size)).drew.drew.setCell (p:=⟨w.heap.size+2,0,none⟩) n3 _).setCell (p:=⟨w.heap.size+2,1,none⟩) n3 _).setCell (p:=⟨w.heap.size+2,2,none⟩) n3 _).setCell (p:=⟨w.heap.size+2,3,none⟩) n3 _)
   ·have Hgt:Hid ((ag4 B i h x1 x2).1<=(ag4 B i h x1 x2).2):=lH (by rw[HKn.out];exact Int.not_lt.1 hgt)
    go_wp2_with fail
    go_region
    go_wp2;have hlow: ∀u m n B2,bI u m ⟨va,vl,some ⟨O.pb,0,none⟩,vtc,vlc,vpc⟩ B2 O->n<=m->bI u n ⟨va,vl,some ⟨O.pb,0,none⟩,vtc,vlc,vpc⟩ B2 O:=fun u m n B2 h hn=>⟨h.ta,h.la,h.pa,h.pc,h.rp,h.tc,h.towns,h.links,h.steps,h.pairs,h.calls,fun i q hq=>⟨⟨(h.free i q hq).1.1,Nat.le_trans hn (h.free i q hq).1.2⟩,(h.free i q hq).2⟩,h.dis,⟨Nat.le_trans hn h.lo.1,Nat.le_trans hn h.lo.2.1,Nat.le_trans hn h.lo.2.2.1,fun i L hL=>Nat.le_trans hn (h.lo.2.2.2 i L hL)⟩⟩;refine bodyPost_ret (v:= .tuple #[.agg #[.int .i64 B.hours,.slice va B.towns.length vtc,.slice vl B.links.length vlc,.slice (some ⟨O.pb,0,none⟩) B.pairs.length vpc],.int .i64 0]) (by simp[results,Tryd.results53,go_sem,r0,r1,r2,r3]) rfl ⟨.inr (.inr ⟨Hbo.out,Hgt.out,⟨va,vl,some ⟨O.pb,0,none⟩,vtc,vlc,vpc⟩,O,rfl, ?_⟩), ?_⟩
    ·rw[HKn.out];exact hlow _ _ _ _ (((((HS6.out.below (Below.refl _ _).drew.drew).far _ n4).far _ n4).far _ n4).far _ n4) n5
    ·exact(((((HBW.out.trans (HB6.out.mono HBW.out.size)).drew.drew.setCell (p:=⟨w.heap.size+2,0,none⟩) n3 _).setCell (p:=⟨w.heap.size+2,1,none⟩) n3 _).setCell (p:=⟨w.heap.size+2,2,none⟩) n3 _).setCell (p:=⟨w.heap.size+2,3,none⟩) n3 _)
  ·have hbo':dw (x1,x2)=false:=by simpa using hbo
   have b1:=ak HB2.out;have r0:=(b1.1 (w.heap.size+2) 0 (by omega)).trans HR.out.c0;have r1:=(b1.1 (w.heap.size+2) 1 (by omega)).trans HR.out.c1;have r2:=(b1.1 (w.heap.size+2) 2 (by omega)).trans HR.out.c2;have r3:=(b1.1 (w.heap.size+2) 3 (by omega)).trans HR.out.c3;have g0:=(b1.2 (w.heap.size+2) 0 (by omega)).trans HR.out.f0;have g1:=(b1.2 (w.heap.size+2) 1 (by omega)).trans HR.out.f1;have g2:=(b1.2 (w.heap.size+2) 2 (by omega)).trans HR.out.f2;have g3:=(b1.2 (w.heap.size+2) 3 (by omega)).trans HR.out.f3;have Hbo:=lH hbo';rw[hbo'];clear b1 hbo hbo';go_wp2;have n3:w.heap.size<=w.heap.size+2:=by omega
   refine bodyPost_ret (v:= .tuple #[.agg #[.int .i64 0,.slice none 0 0,.slice none 0 0,.slice none 0 0],.int .i64 1]) (by simp[results,Tryd.results53,go_sem,r0,r1,r2,r3]) rfl ⟨.inl ⟨Hbo.out,rfl⟩, ?_⟩;exact((((HBW.out.trans (HB2.out.mono HBW.out.size)).setCell (p:=⟨w.heap.size+2,0,none⟩) n3 _).setCell (p:=⟨w.heap.size+2,1,none⟩) n3 _).setCell (p:=⟨w.heap.size+2,2,none⟩) n3 _).setCell (p:=⟨w.heap.size+2,3,none⟩) n3 _
 |_=>exact hq.elim
section
variable {f:FuncId} {ops:Array Oper} {kk:List Item} {R:Value->World->Prop}
theorem acD {w u x:World} (h:Kept w.heap.size w u) (k:Kept u.heap.size u x):Kept w.heap.size w x:=h.trans (k.mono h.size)
def YG (ops:Array Oper) (o:Oper) (v:Value) (a:Act) (w:World):Prop:=
 (Region.wanted o (yielded ops a.tmps)=true/\ ∀u,Kept w.heap.size w u->(execOp a.eval o).run tP u= .ok (.value v) u)\/(Region.wanted o (yielded ops a.tmps)=false/\v=ud)
theorem YG.kept {o:Oper} {v:Value} {a:Act} {w w':World} (h:YG ops o v a w) (hk:Kept w.heap.size w w'):YG ops o v a w':=by
 rcases h with ⟨h1,h2⟩ |h
 ·exact .inl ⟨h1,fun u hu=>h2 u (acD hk hu)⟩
 ·exact .inr h
def acv (K:Value->World->Prop) (w:World) (m:Sem Next):Prop:=
 (∃v,(∀τ,m.run tP (w.tp τ 0 noJ)= .ok (.value v) (w.tp τ 0 noJ))/\K v w)\/
 (∃S:Value->World->Prop,(∀τ,∃v w',m.run tP (w.tp τ 0 noJ)= .ok (.value v) w'/\S v w')/\ ∀v w',S v w'->Kept w.heap.size w w'/\K v w')\/
 (∃g args R1,(∀u,m.run tP u= .ok (.enter g args) u)/\iK tP g args w R1/\ ∀v w',R1 v w'->Kept w.heap.size w w'/\K v w')
theorem acv.mono {w:World} {m:Sem Next} {K K':Value->World->Prop} (h: ∀v w',Kept w.heap.size w w'->K v w'->K' v w') (hh:acv K w m):acv K' w m:=by
 rcases hh with ⟨v,h1,h2⟩ |⟨S,h1,h2⟩ |⟨g,args,R1,h1,h2,h3⟩
 ·exact .inl ⟨v,h1,h v w (Kept.refl _ _) h2⟩
 ·exact .inr (.inl ⟨S,h1,fun v w' hv=>⟨(h2 v w' hv).1,h _ _ (h2 v w' hv).1 (h2 v w' hv).2⟩⟩)
 ·exact .inr (.inr ⟨g,args,R1,h1,h2,fun v w' hv=>⟨(h3 v w' hv).1,h _ _ (h3 v w' hv).1 (h3 v w' hv).2⟩⟩)
def OpG (ops:Array Oper) (i:Nat) (K:Act->World->Prop) (a:Act) (w:World):Prop:=
 match ops[i]? with
 |none=>False
 |some o=>if Region.wanted o (yielded ops a.tmps) then acv (fun v w'=>K (a.put o.dst v) w') w (execOp a.eval o) else K (a.put o.dst ud) w
theorem OpG.mono {i:Nat} {a:Act} {w:World} {K K':Act->World->Prop} (h: ∀a w,K a w->K' a w) (hh:OpG ops i K a w):OpG ops i K' a w:=by
 unfold OpG at *
 split
 ·simp_all
 ·rename_i o ho;simp only[ho] at hh
  split
  ·rename_i hw;simp only[hw,if_true] at hh;exact hh.mono fun _ _ _=>h _ _
  ·rename_i hw;simp only[hw] at hh;exact h _ _ hh
theorem acE {i:Nat} {rest:List Nat} {a:Act} {w:World} (h:OpG ops i (fun a' w'=>GL tP f (.inRegion ops rest::kk) R a' w') a w):GL tP f (.inRegion ops (i::rest)::kk) R a w:=by
 unfold OpG at h
 split at h
 ·exact h.elim
 ·rename_i o ho
  split at h
  ·rename_i hw
   rcases h with ⟨v,h1,h2⟩ |⟨S,h1,h2⟩ |⟨g,args,R1,h1,h2,h3⟩
   ·refine LQ good (fun v' u=>v'=v/\ ∃τ,u=w.tp τ 0 noJ) ho hw (fun τ=>⟨v,_,h1 τ,rfl,τ,rfl⟩) fun v' u ⟨e,τ,e2⟩=> ?_;subst e e2;exact qL (τ:=w.tape) (d:=w.drawn) (by rw[dS,dh];exact h2)
   ·exact LQ good S ho hw h1 fun v w' hv=>(h2 v w' hv).2
   ·exact qM good ho hw h1 h2 fun v w' hv=>(h3 v w' hv).2
  ·rename_i hw;exact Bf good ho (by simpa using hw) h
theorem YG.opG {i:Nat} {o:Oper} {v:Value} {a:Act} {w:World} {K:Act->World->Prop} (hi:ops[i]? =some o) (hy:YG ops o v a w) (hK:K (a.put o.dst v) w):OpG ops i K a w:=by
 unfold OpG;simp only[hi]
 rcases hy with ⟨hw,hv⟩ |⟨hw,rfl⟩
 ·simp only[hw,if_true];exact .inl ⟨v,fun τ=>hv _ jD,hK⟩
 ·simp only[hw,Bool.false_eq_true,if_false];exact hK
theorem acF {j:Nat} {oi oj:Oper} {v:Value} (hj:ops[j]? =some oj) (hap:oi.apart ops oj=true) (hsi: ∀cs b,oi.op≠ .select cs b) (hsj: ∀cs b,oj.op≠ .select cs b) {K:Act->World->Prop} {a:Act} {w:World}
  (hy:YG ops oi v a w) (h:OpG ops j K (a.put oi.dst v) w):OpG ops j (fun a' w'=>YG ops oi v a' w'/\K (a'.put oi.dst v) w') a w:=by
 obtain⟨h1,h2,h3⟩:=Oper.apart_spec hap;have keep: ∀(u:Value) (w':World),Kept w.heap.size w w'->YG ops oi v (a.put oj.dst u) w':=fun u w' hk=>by
  refine YG.kept (w:=w) ?_ hk;unfold YG at hy ⊢;rw[wanted_put oi a oj.dst u h3,execOp_put oi hsi a oj.dst u h3];exact hy
 unfold OpG at *;simp only[hj] at *;rw[wanted_put oj a oi.dst v h1] at h
 split
 ·rename_i hw;simp only[hw,if_true] at h;rw[execOp_put oj hsj a oi.dst v h1] at h;refine h.mono fun u w' hk hh=>⟨keep u w' hk, ?_⟩;rw[<-Act.put_comm a v u h2];exact hh
 ·rename_i hw;simp only[hw] at h;refine⟨keep _ _ (Kept.refl _ _), ?_⟩;rw[<-Act.put_comm a v ud h2];exact h
def GA (f:FuncId) (ops:Array Oper) (kk:List Item) (R:Value->World->Prop):Nat->Array Bool->Act->World->Prop
 | 0,listed,a,w=>Region.ready .any ops listed= []/\GL tP f kk R a w
 |n+1,listed,a,w=>(Region.ready .any ops listed= []->GL tP f kk R a w)/\ ∀i∈Region.ready .any ops listed,OpG ops i (GA f ops kk R n (listed.setIfInBounds i true)) a w
theorem acw: ∀(n t:Nat) (listed:Array Bool) (a:Act) (w:World),GA f ops kk R n listed a w->GL tP f (.inRegion ops (Region.linearise.go .any ops n t listed [])::kk) R a w
 | 0,t,listed,a,w,h=>by
  simp only[Region.linearise.go,List.reverse_nil];exact lY good h.2
 |n+1,t,listed,a,w,h=>by
  obtain⟨h0,h1⟩:=h;simp only[Region.linearise.go]
  change GL tP f (.inRegion ops (match (Region.ready .any ops listed)[t % (Region.ready .any ops listed).length]? with
   |some i=>Region.linearise.go .any ops n (t / (Region.ready .any ops listed).length) (listed.setIfInBounds i true) [i]
   |none=> [].reverse)::kk) R a w
  cases hi:(Region.ready .any ops listed)[t % (Region.ready .any ops listed).length]? with
  |none=>
   have hnil:Region.ready .any ops listed= []:=by
    cases hr:Region.ready .any ops listed with
    |nil=>rfl
    |cons x xs=>
     rw[hr] at hi;have hlt:t % (x::xs).length<(x::xs).length:=Nat.mod_lt _ (by simp);simp at hi;simp at hlt;omega
   exact lY good (h0 hnil)
  |some i=>
   simp only[];rw[linearise_go_acc,List.reverse_singleton,List.singleton_append];exact acE ((h1 i (List.mem_of_getElem? hi)).mono fun a' w' x=>acw n _ _ a' w' x)
theorem acG {i:Nat} {oi:Oper} {v:Value} (hi:ops[i]? =some oi) (hsel: ∀(j:Nat) (o:Oper) cs b,ops[j]? =some o->o.op≠ .select cs b):
    ∀(n:Nat) (listed:Array Bool) (a:Act) (w:World),
      (∀j oj,ops[j]? =some oj->j≠i->listed.getD j true=false->(∀e∈oj.after,Region.binds .any e=true->e.on≠i)->oi.apart ops oj=true)->
      i∈Region.ready .any ops listed->YG ops oi v a w->GA f ops kk R n (listed.setIfInBounds i true) (a.put oi.dst v) w->GA f ops kk R (n+1) listed a w:=by
  intro n
  induction n with
  |zero=>
    intro listed a w _ hr hy H;refine⟨fun h=>(by rw[h] at hr;cases hr),fun j hj=> ?_⟩;by_cases hji:j=i
    · subst hji;exact hy.opG hi H
    · have:=ready_mono hj hji
      rw[H.1] at this
      cases this
  |succ n ih=>
    intro listed a w hfree hr hy H;refine⟨fun h=>(by rw[h] at hr;cases hr),fun j hj=> ?_⟩;by_cases hji:j=i
    · subst hji;exact hy.opG hi H
    · have h1:=H.2 j (ready_mono hj hji)
      obtain⟨hjun,oj,hoj,hall⟩:=mem_ready.1 hj;have hnot: ∀e∈oj.after,Region.binds .any e=true->e.on≠i:=fun e he hb heq=>by
        have h1:=hall e he hb;have h0:=(mem_ready.1 hr).1;rw[heq] at h1
        rcases Nat.lt_or_ge i listed.size with h' |h'
        · simp[h'] at h0 h1;rw[h0] at h1;cases h1
        · simp[Array.getElem?_eq_none h'] at h1
      have h2:=acF hoj (hfree j oj hoj hji hjun hnot) (fun cs b=>hsel i oi cs b hi) (fun cs b=>hsel j oj cs b hoj) hy h1;have hfree': ∀k ok,ops[k]? =some ok->k≠i->(listed.setIfInBounds j true).getD k true=false->
          (∀e∈ok.after,Region.binds .any e=true->e.on≠i)->oi.apart ops ok=true:=fun k ok hk hki hun hno=>by
        refine hfree k ok hk hki ?_ hno;by_cases hjk:j=k
        · subst hjk;exact hjun
        · rw[getD_set_ne true hjk] at hun;exact hun
      refine h2.mono fun a' w' h3=>ih (listed.setIfInBounds j true) a' w' hfree' (ready_mono hr (Ne.symm hji)) h3.1 ?_;rw[Array.setIfInBounds_comm _ _ hji];exact h3.2
theorem ac3 (m:Nat) {id:Nat} {a:Act} {w:World} (h:GA f ops kk R m (Array.replicate m false) a w) (hm:ops.size=m:=by rfl):GL tP f (.code (.region id ops true)::kk) R a w:=by
 subst hm;refine Eo good (fun it b u=> ∃t,it= .inRegion ops (Region.linearise .any ops t)::kk/\b=a/\ ∃τ d,u=w.tp τ d noJ) (fun τ=>⟨.inRegion ops (Region.linearise .any ops ((w.tp τ 0 noJ).tape (w.tp τ 0 noJ).drawn (.order (aN f).fn id)))::kk,a,w.tp τ 1 noJ,⟨_,rfl,rfl,τ,1,rfl⟩,fun cc=> .one ?_⟩) ?_
 ·have:=step_region_draw (P:=tP) (b:=aN f) (a:=a) (k:=kk) (cs:=cc) (w:=w.tp τ 0 noJ) (ops:=ops) (id:=id);rw[this];simp only[Region.schedule,show tP.follows .mixedOrders=true by kernel_rfl,Bool.true_or,if_true];rfl
 ·rintro it b u ⟨t,rfl,rfl,τ,d,rfl⟩;exact qL (τ:=w.tape) (d:=w.drawn) (by rw[dS,dh];exact acw _ _ _ _ _ h)
end
section
variable {f:FuncId} {N n d s t:Nat} {a:Act} {w:World} {l:List (Nat×Value)} {ops:Array Oper} {listed:Array Bool} {i:Nat} {kk:List Item} {R:Value->World->Prop} {o:Oper}
theorem acy {v:Value} (ho:ops[i]? =some o) (hsel:Region.noSelect ops=true) (hf:Region.free .any ops listed i=true) (hc:(Region.ready .any ops listed).contains i=true) (hy:YG ops o v a w) (h:GA f ops kk R n (listed.setIfInBounds i true) (a.put o.dst v) w):GA f ops kk R (n+1) listed a w:=
 acG ho (Region.noSelect_spec hsel) n listed a w (Region.free_spec ho hf) (by simpa using hc) hy h
theorem acr {v:Value} (hS:Sl a N l) (ho:ops[i]? =some o) (hw:Region.wanted o (yielded ops a.tmps)=true) (hdst:o.dst=some d) (hd:d<N) (hn:(l.map (·.1)).contains d=false) (hsel:Region.noSelect ops=true) (hf:Region.free .any ops listed i=true) (hc:(Region.ready .any ops listed).contains i=true)
  (hr: ∀u,Kept w.heap.size w u->(execOp a.eval o).run tP u= .ok (.value v) u) (h: ∀a',Sl a' N ((d,v)::l)->GA f ops kk R n (listed.setIfInBounds i true) a' w):GA f ops kk R (n+1) listed a w:=
 acy ho hsel hf hc (.inl ⟨hw,hr⟩) (h _ (by have:=hS.put hd hn (v:=v);rw[<-hdst] at this;exact this))
theorem ac5 (h:GL tP f kk R a w) (hr:Region.ready .any ops listed= []:=by kernel_rfl):GA f ops kk R 0 listed a w:=⟨hr,h⟩
theorem ac7 (i:Nat) (v:Value) (hS:Sl a N l) (h: ∀a',Sl a' N ((d,v)::l)->GA f ops kk R n (listed.setIfInBounds i true) a' w)
  (ho:ops[i]? =some o:=by rfl) (hw:Region.wanted o (yielded ops a.tmps)=true:=by rfl) (hdst:o.dst=some d:=by rfl) (hd:d<N:=by decide) (hn:(l.map (·.1)).contains d=false:=by rfl) (hsel:Region.noSelect ops=true:=by kernel_rfl) (hf:Region.free .any ops listed i=true:=by kernel_rfl) (hc:(Region.ready .any ops listed).contains i=true:=by kernel_rfl)
  (hr: ∀u,(execOp a.eval o).run tP u= .ok (.value v) u:=by intro u;have h:=(‹Sl _ _ _›).2.2;simp only[SlA] at h;simp[go_sem,h]):
  GA f ops kk R (n+1) listed a w:=acr hS ho hw hdst hd hn hsel hf hc (fun u _=>hr u) h
theorem ada (i:Nat) {b k:Nat} {x:Int} (hS:Sl a N l) (hc0:w.cell? ⟨b,k,none⟩=some (.int .i64 x)) (h: ∀a',Sl a' N ((d,.int .i64 x)::l)->GA f ops kk R n (listed.setIfInBounds i true) a' w)
  (ho:ops[i]? =some o:=by rfl) (hw:Region.wanted o (yielded ops a.tmps)=true:=by rfl) (hdst:o.dst=some d:=by rfl) (hd:d<N:=by decide) (hn:(l.map (·.1)).contains d=false:=by rfl) (hsel:Region.noSelect ops=true:=by kernel_rfl) (hf:Region.free .any ops listed i=true:=by kernel_rfl) (hc:(Region.ready .any ops listed).contains i=true:=by kernel_rfl) (hp:o.op= .load 3 (.tmp s):=by rfl) (hs:a.tmps[s]?.getD ud= .pointer (some ⟨b,k,none⟩):=by have h:=(‹Sl _ _ _›).2.2;simp only[SlA] at h;simp only[h]):GA f ops kk R (n+1) listed a w:=acr hS ho hw hdst hd hn hsel hf hc (fun u hk=>by
   have hc1:=dV hk (nR _) hc0;obtain⟨dd,oo,ty,po,af,gu⟩:=o;simp only at hp;subst hp;go_simp) h
theorem adb (i:Nat) {b1:Nat} {V:BkV} {B:Bk} (hS:Sl a N l) (hB:dL w b1 V B) (h: ∀a',Sl a' N ((d,.pointer (some ⟨b1,0,none⟩))::l)->GA f ops kk R n (listed.setIfInBounds i true) a' w)
  (ho:ops[i]? =some o:=by rfl) (hw:Region.wanted o (yielded ops a.tmps)=true:=by rfl) (hdst:o.dst=some d:=by rfl) (hd:d<N:=by decide) (hn:(l.map (·.1)).contains d=false:=by rfl) (hsel:Region.noSelect ops=true:=by kernel_rfl) (hf:Region.free .any ops listed i=true:=by kernel_rfl) (hc:(Region.ready .any ops listed).contains i=true:=by kernel_rfl) (hp:o.op= .fieldAddr 26 (.tmp s) 0:=by rfl) (hs:a.tmps[s]?.getD ud= .pointer (some ⟨b1,0,none⟩):=by have h:=(‹Sl _ _ _›).2.2;simp only[SlA] at h;simp only[h]):GA f ops kk R (n+1) listed a w:=acr hS ho hw hdst hd hn hsel hf hc (fun u hk=>by
   have c0:=(hB.kept hk).c0;obtain⟨dd,oo,ty,po,af,gu⟩:=o;simp only at hp;subst hp;go_simp) h
theorem adg (i:Nat) {b1:Nat} {V:BkV} {B:Bk} (hS:Sl a N l) (hB:dL w b1 V B) (h: ∀a',Sl a' N ((d,.pointer (some ⟨b1,3,none⟩))::l)->GA f ops kk R n (listed.setIfInBounds i true) a' w)
  (ho:ops[i]? =some o:=by rfl) (hw:Region.wanted o (yielded ops a.tmps)=true:=by rfl) (hdst:o.dst=some d:=by rfl) (hd:d<N:=by decide) (hn:(l.map (·.1)).contains d=false:=by rfl) (hsel:Region.noSelect ops=true:=by kernel_rfl) (hf:Region.free .any ops listed i=true:=by kernel_rfl) (hc:(Region.ready .any ops listed).contains i=true:=by kernel_rfl) (hp:o.op= .fieldAddr 26 (.tmp s) 3:=by rfl) (hs:a.tmps[s]?.getD ud= .pointer (some ⟨b1,0,none⟩):=by have h:=(‹Sl _ _ _›).2.2;simp only[SlA] at h;simp only[h]):GA f ops kk R (n+1) listed a w:=acr hS ho hw hdst hd hn hsel hf hc (fun u hk=>by
   have c0:=(hB.kept hk).c0;obtain⟨dd,oo,ty,po,af,gu⟩:=o;simp only at hp;subst hp;go_simp) h
theorem adh (i:Nat) {b1:Nat} {V:BkV} {B:Bk} (hS:Sl a N l) (hB:dL w b1 V B) (h: ∀a',Sl a' N ((d,.int .i64 B.hours)::l)->GA f ops kk R n (listed.setIfInBounds i true) a' w)
  (ho:ops[i]? =some o:=by rfl) (hw:Region.wanted o (yielded ops a.tmps)=true:=by rfl) (hdst:o.dst=some d:=by rfl) (hd:d<N:=by decide) (hn:(l.map (·.1)).contains d=false:=by rfl) (hsel:Region.noSelect ops=true:=by kernel_rfl) (hf:Region.free .any ops listed i=true:=by kernel_rfl) (hc:(Region.ready .any ops listed).contains i=true:=by kernel_rfl) (hp:o.op= .load 3 (.tmp s):=by rfl) (hs:a.tmps[s]?.getD ud= .pointer (some ⟨b1,0,none⟩):=by have h:=(‹Sl _ _ _›).2.2;simp only[SlA] at h;simp only[h]):GA f ops kk R (n+1) listed a w:=acr hS ho hw hdst hd hn hsel hf hc (fun u hk=>by
   have c0:=(hB.kept hk).c0;obtain⟨dd,oo,ty,po,af,gu⟩:=o;simp only at hp;subst hp;go_simp) h
theorem adl (i:Nat) {b1:Nat} {V:BkV} {B:Bk} (hS:Sl a N l) (hB:dL w b1 V B) (h: ∀a',Sl a' N ((d,.slice V.pa B.pairs.length V.pc)::l)->GA f ops kk R n (listed.setIfInBounds i true) a' w)
  (ho:ops[i]? =some o:=by rfl) (hw:Region.wanted o (yielded ops a.tmps)=true:=by rfl) (hdst:o.dst=some d:=by rfl) (hd:d<N:=by decide) (hn:(l.map (·.1)).contains d=false:=by rfl) (hsel:Region.noSelect ops=true:=by kernel_rfl) (hf:Region.free .any ops listed i=true:=by kernel_rfl) (hc:(Region.ready .any ops listed).contains i=true:=by kernel_rfl) (hp:o.op= .load 24 (.tmp s):=by rfl) (hs:a.tmps[s]?.getD ud= .pointer (some ⟨b1,3,none⟩):=by have h:=(‹Sl _ _ _›).2.2;simp only[SlA] at h;simp only[h]):GA f ops kk R (n+1) listed a w:=acr hS ho hw hdst hd hn hsel hf hc (fun u hk=>by
   have c0:=(hB.kept hk).c3;obtain⟨dd,oo,ty,po,af,gu⟩:=o;simp only at hp;subst hp;go_simp) h
theorem adn (i:Nat) {q:Int} (hS:Sl a N l) (hq:0<=q/\q<=255) (h: ∀a',Sl a' N ((d,.int .i64 q)::l)->GA f ops kk R n (listed.setIfInBounds i true) a' w)
  (ho:ops[i]? =some o:=by rfl) (hw:Region.wanted o (yielded ops a.tmps)=true:=by rfl) (hdst:o.dst=some d:=by rfl) (hd:d<N:=by decide) (hn:(l.map (·.1)).contains d=false:=by rfl) (hsel:Region.noSelect ops=true:=by kernel_rfl) (hf:Region.free .any ops listed i=true:=by kernel_rfl) (hc:(Region.ready .any ops listed).contains i=true:=by kernel_rfl) (hp:o.op= .convert 5 3 (.tmp s):=by rfl) (hs:a.tmps[s]?.getD ud= .int .u8 q:=by have h:=(‹Sl _ _ _›).2.2;simp only[SlA] at h;simp only[h]):GA f ops kk R (n+1) listed a w:=acr hS ho hw hdst hd hn hsel hf hc (fun u hk=>by
   have hwq:IntKind.wrap .i64 q=q:=IntWalk.i64_in _ (by omega);obtain⟨dd,oo,ty,po,af,gu⟩:=o;simp only at hp;subst hp;go_simp) h
theorem ado (i:Nat) {q:Int} {m k:Nat} (hS:Sl a N l) (hq:0<=q/\q<=65535) (hn1:1<=m) (hk0:(k:Int)=q % (m:Int)) (h: ∀a',Sl a' N ((d,.int .i64 (k:Int))::l)->GA f ops kk R n (listed.setIfInBounds i true) a' w)
  (ho:ops[i]? =some o:=by rfl) (hw:Region.wanted o (yielded ops a.tmps)=true:=by rfl) (hdst:o.dst=some d:=by rfl) (hd:d<N:=by decide) (hn:(l.map (·.1)).contains d=false:=by rfl) (hsel:Region.noSelect ops=true:=by kernel_rfl) (hf:Region.free .any ops listed i=true:=by kernel_rfl) (hc:(Region.ready .any ops listed).contains i=true:=by kernel_rfl) (hp:o.op= .binOp .rem 3 (.tmp s) (.tmp t) 3:=by rfl) (hs:a.tmps[s]?.getD ud= .int .i64 q:=by have h:=(‹Sl _ _ _›).2.2;simp only[SlA] at h;simp only[h]) (ht:a.tmps[t]?.getD ud= .int .i64 (m:Int):=by have h:=(‹Sl _ _ _›).2.2;simp only[SlA] at h;simp only[h]):GA f ops kk R (n+1) listed a w:=acr hS ho hw hdst hd hn hsel hf hc (fun u hk=>by
   have h1:((q.toNat % m:Nat):Int)=(k:Int):=by rw[Int.natCast_emod,Int.toNat_of_nonneg hq.1,hk0]
   have h2:=Nat.mod_le q.toNat m;have hkn:(k:Int)<=65535:=by omega
   have hrem:Int.tmod q (m:Int)=(k:Int):=by rw[hk0];exact Int.tmod_eq_emod_of_nonneg hq.1
   have hn0: ¬m=0:=by omega
   have hnz:((m:Int)==0)=false:=by rw[beq_eq_false_iff_ne];omega
   have hwk:IntKind.wrap .i64 (k:Int)=(k:Int):=IntWalk.i64_in _ (by omega);obtain⟨dd,oo,ty,po,af,gu⟩:=o;simp only at hp;subst hp;go_simp) h
end
theorem bI.kept {w w':World} {n:Nat} {V:BkV} {B:Bk} {O:qZ} (h:bI w n V B O) (hk:Kept w.heap.size w w'):bI w' n V B O:=by
 have c: ∀{b o:Nat} {v:Value},w.cell? ⟨b,o,none⟩=some v->w'.cell? ⟨b,o,none⟩=some v:=fun h=>dV hk (nR _) h;have hrp:bG w' V.pa:=fun a e=>by
  obtain⟨x,t,z,h0⟩:=h.rp a e;exact⟨x,t,z,(hk.block _ (Array.getElem?_eq_some_iff.1 h0).1).trans h0⟩
 refine⟨h.ta,h.la,h.pa,h.pc,hrp,h.tc,fun i t ht=>c (h.towns i t ht),fun i L hL=> ?_,fun i L k s hL hs=> ?_,fun i p hp=> ?_,fun i p k x hp hx=> ?_,fun i p hp=> ?_,h.dis,h.lo⟩
 ·obtain⟨h0,h1,sc,h2⟩:=h.links i L hL;exact⟨c h0,c h1,sc,c h2⟩
 ·exact⟨c (h.steps i L k s hL hs).1,c (h.steps i L k s hL hs).2⟩
 ·obtain⟨h0,h1,sc,h2⟩:=h.pairs i p hp;exact⟨c h0,c h1,sc,c h2⟩
 ·exact⟨c (h.calls i p k x hp hx).1,c (h.calls i p k x hp hx).2⟩
 ·have:=h.free i p hp;exact⟨⟨Nat.lt_of_lt_of_le this.1.1 hk.size,this.1.2⟩,fun j=>by rw[hk.frozen (p:=⟨_,j,none⟩) this.1.1];exact this.2 j⟩
structure afY (w:World) (b:Nat) (V:BkV) (B:Bk):Prop where
 c0:w.cell? ⟨b,0,none⟩=some (.int .i64 B.hours)
 c1:w.cell? ⟨b,1,none⟩=some (.slice V.ta B.towns.length V.tc)
 c2:w.cell? ⟨b,2,none⟩=some (.slice V.la B.links.length V.lc)
 c3:w.cell? ⟨b,3,none⟩=some (.slice V.pa B.pairs.length V.pc)
 lt:b<w.heap.size
 fr: ∀j,w.frozen? ⟨b,j,none⟩=false
theorem afY.kept {w w':World} {b:Nat} {V:BkV} {B:Bk} (h:afY w b V B) (hk:Kept w.heap.size w w'):afY w' b V B:=
 ⟨dV hk (nR _) h.c0,dV hk (nR _) h.c1,dV hk (nR _) h.c2,dV hk (nR _) h.c3,Nat.lt_of_lt_of_le h.lt hk.size,fun j=>by rw[hk.frozen (p:=⟨b,j,none⟩) h.lt];exact h.fr j⟩
theorem afY.law {w:World} {b n:Nat} {V:BkV} {B:Bk} {O:qZ} (h:afY w b V B) (ho:bI w n V B O) (hG:Good B) (hv:Vars w):dL w b V B:=
 ⟨h.c0,h.c1,h.c2,h.c3,ho.inn (Fe hG),aaW ho (by have:=hG.fine.towns;omega) (by have:=hG.fine.links;have:=hG.fine.towns;unfold Bk.spokes at *; omega),hv⟩
section
variable {f:FuncId} {N d s t:Nat} {a:Act} {w:World} {l:List (Nat×Value)} {ops:Array Oper} {i j:Nat} {rest:List Nat} {kk:List Item} {R:Value->World->Prop} {o o2:Oper}
theorem agB (w:World) (τ:Nat->Question->Nat) (d:Nat) (x:Obj):(w.tp τ d noJ).alloc x=(w.alloc x).tp τ d noJ:=by
 unfold World.tp World.alloc;rw[vO,vO]
def afS (w:World) (b:Nat) (V:BkV) (B:Bk):World:=(((w.setCell ⟨b,0,none⟩ (.int .i64 B.hours)).setCell ⟨b,1,none⟩ (.slice V.ta B.towns.length V.tc)).setCell ⟨b,2,none⟩ (.slice V.la B.links.length V.lc)).setCell ⟨b,3,none⟩ (.slice V.pa B.pairs.length V.pc)
theorem agi (w:World) (τ:Nat->Question->Nat) (d:Nat) (b:Nat) (V:BkV) (B:Bk):afS (w.tp τ d noJ) b V B=(afS w b V B).tp τ d noJ:=by
 unfold afS;rw[Pz _ _ _ lF,Pz _ _ _ lF,Pz _ _ _ lF,Pz _ _ _ lF]
structure afU (w:World) (b:Nat):Prop where
 c:(∃v,w.cell? ⟨b,0,none⟩=some v)/\(∃v,w.cell? ⟨b,1,none⟩=some v)/\(∃v,w.cell? ⟨b,2,none⟩=some v)/\ ∃v,w.cell? ⟨b,3,none⟩=some v
 lt:b<w.heap.size
 fr: ∀j,w.frozen? ⟨b,j,none⟩=false
theorem af8 {w:World} {b:Nat} (h:afU w b) (V:BkV) (B:Bk):afY (afS w b V B) b V B:=by
 obtain⟨⟨⟨v0,c0⟩,⟨v1,c1⟩,⟨v2,c2⟩,⟨v3,c3⟩⟩,hl,hf⟩:=h;have f0:=hf 0;have f1:=hf 1;have f2:=hf 2;have f3:=hf 3;unfold afS;refine⟨by go_simp,by go_simp,by go_simp,by go_simp,by simpa using hl,fun j=> ?_⟩;rw[World.frozen?_setCell,World.frozen?_setCell,World.frozen?_setCell,World.frozen?_setCell];exact hf j
theorem af9 {n:Nat} {w w':World} {b:Nat} (h:Kept n w w') (hb:n<=b) (V:BkV) (B:Bk):Kept n w (afS w' b V B):=
 ach (ach (ach (ach h (p:=⟨b,0,none⟩) hb _) (p:=⟨b,1,none⟩) hb _) (p:=⟨b,2,none⟩) hb _) (p:=⟨b,3,none⟩) hb _
theorem agj {w:World} {b:Nat} (h:afU w b) (τ:Nat->Question->Nat) (d:Nat):afU (w.tp τ d noJ) b:=by
 obtain⟨c,hl,hf⟩:=h;exact⟨by simpa only[bV] using c,by rw[jO];exact hl,fun j=>by rw[(jD (w:=w) (τ:=τ) (d:=d)).frozen (p:=⟨b,j,none⟩) hl];exact hf j⟩
theorem agk {o:Oper} {p q b:Nat} {V:BkV} {B:Bk} {x:World} (hp2:o.op= .store 26 (.tmp p) (.tmp q)) (hd:a.tmps[p]?.getD ud= .pointer (some ⟨b,0,none⟩)) (hs:a.tmps[q]?.getD ud=V.val B) (h:afU x b):(execOp a.eval o).run tP x= .ok .skip (afS x b V B):=by
 obtain⟨⟨⟨v0,c0⟩,⟨v1,c1⟩,⟨v2,c2⟩,⟨v3,c3⟩⟩,hl,hf⟩:=h;have f0:=hf 0;have f1:=hf 1;have f2:=hf 2;have f3:=hf 3;obtain⟨dd,oo,ty,po,af,gu⟩:=o;simp only at hp2;subst hp2;unfold BkV.val at hs;unfold afS;go_simp
theorem ag3 (S:World->Prop) (ho:ops[i]? =some o) (hw:Region.wanted o (yielded ops a.tmps)=true) (hr: ∀τ,∃w',(execOp a.eval o).run tP (w.tp τ 0 noJ)= .ok .skip w'/\S w')
  (h: ∀w',S w'->GL tP f (.inRegion ops rest::kk) R (a.put o.dst ud) w'):GL tP f (.inRegion ops (i::rest)::kk) R a w:=by
 refine Eo good (fun it b u=>it= .inRegion ops rest::kk/\b=a.put o.dst ud/\S u) (fun τ=> ?_) fun it b u ⟨e1,e2,hs⟩=>by subst e1 e2;exact h u hs
 obtain⟨w',hr',hs⟩:=hr τ;refine⟨_,_,w',⟨rfl,rfl,hs⟩,fun cc=> .one (step_lone_go ?_)⟩
 change (stepG tP true (G ((aN f).at a (.inRegion ops (i::rest)::kk)) cc) (w.tp τ 0 noJ)).bare=_
 rw[stepG_none ho hw (by intro e;cases e) hr'];rfl
theorem aga {it:List Item} {τ:Nat->Question->Nat} {d:Nat} (h:GL tP f it R a w):GL tP f it R a (w.tp τ d noJ):=
 qL (τ:=w.tape) (d:=w.drawn) (by rw[dS,dh];exact h)
theorem agb {V:BkV} {B:Bk} (hS:Sl a N l) (h: ∀a' b w',w.heap.size<=b->Kept w.heap.size w w'->afY w' b V B->Sl a' N ((d,.pointer (some ⟨b,0,none⟩))::l)->GL tP f (.inRegion ops rest::kk) R a' w') (hs:a.tmps[s]?.getD ud=V.val B)
  (ho:ops[i]? =some o:=by rfl) (ho2:ops[j]? =some o2:=by rfl) (hg:o.guard=none:=by rfl) (hg2:o2.guard=none:=by rfl) (hdst:o.dst=some d:=by rfl) (hdst2:o2.dst=none:=by rfl) (hd:d<N:=by decide) (hn:(l.map (·.1)).contains d=false:=by rfl) (hp:o.op= .alloc 26:=by rfl) (hp2:o2.op= .store 26 (.tmp d) (.tmp s):=by rfl) (hne:s≠d:=by decide):
  GL tP f (.inRegion ops (i::j::rest)::kk) R a w:=by
 have P:=kP a (d:=d) (.pointer (some ⟨w.heap.size,0,none⟩)) (by rw[hS.1];exact hd);refine LQ good (fun v u=>v= .pointer (some ⟨w.heap.size,0,none⟩)/\ ∃τ,u=(w.alloc (.cells #[.int .i64 0,.slice none 0 0,.slice none 0 0,.slice none 0 0] 26)).tp τ 0 noJ) ho (by unfold Region.wanted;rw[hg]) (fun τ=>⟨.pointer (some ⟨w.heap.size,0,none⟩),(w.tp τ 0 noJ).alloc (.cells #[.int .i64 0,.slice none 0 0,.slice none 0 0,.slice none 0 0] 26), ?_,rfl,τ,agB _ _ _ _⟩) ?_
 ·have hz:(w.tp τ 0 noJ).heap.size=w.heap.size:=jO;obtain⟨dd,oo,ty,po,af,gu⟩:=o;simp only at hp;subst hp;rw[<-hz];generalize w.tp τ 0 noJ=w1;go_simp
 rintro v u ⟨rfl,τ,rfl⟩;refine aga ?_;rw[hdst];have hS2:=hS.put hd hn (v:= .pointer (some ⟨w.heap.size,0,none⟩));have hs2:(a.put (some d) (.pointer (some ⟨w.heap.size,0,none⟩))).tmps[s]?.getD ud=V.val B:=(P.other s hne).trans hs;have hd2:(a.put (some d) (.pointer (some ⟨w.heap.size,0,none⟩))).tmps[d]?.getD ud= .pointer (some ⟨w.heap.size,0,none⟩):=P.same;have hx:afU (w.alloc (.cells #[.int .i64 0,.slice none 0 0,.slice none 0 0,.slice none 0 0] 26)) w.heap.size:=⟨⟨⟨_,by go_simp;rfl⟩,⟨_,by go_simp;rfl⟩,⟨_,by go_simp;rfl⟩,⟨_,by go_simp;rfl⟩⟩,by simp,fun j=>by go_simp⟩;have hk:Kept w.heap.size w (w.alloc (.cells #[.int .i64 0,.slice none 0 0,.slice none 0 0,.slice none 0 0] 26)):=Kept.of_below ((Below.refl _ _).alloc (nR _) _);generalize a.put (some d) (.pointer (some ⟨w.heap.size,0,none⟩))=a2 at *;generalize w.alloc (.cells #[.int .i64 0,.slice none 0 0,.slice none 0 0,.slice none 0 0] 26)=W at *;refine ag3 (fun u=> ∃τ,u=(afS W w.heap.size V B).tp τ 0 noJ) ho2 (by unfold Region.wanted;rw[hg2]) (fun τ=>⟨_,agk hp2 hd2 hs2 (agj hx τ 0),τ,agi _ _ _ _ _ _⟩) ?_;rintro u ⟨τ,rfl⟩;refine aga ?_;rw[hdst2];exact h a2 w.heap.size _ (nR _) (af9 hk (nR _) V B) (af8 hx V B) hS2
end
def zeroV:BkV:=⟨none,none,none,0,0,0⟩
def af7:Bk:=⟨0,[],[],[]⟩
section
variable {u:World} {b1:Nat} {V:BkV} {B:Bk} {xs:List Int} {xa:Option Addr} {xc n:Nat} {p:Int}
theorem agP (hB:dL u b1 V B) (hz: ∀t∈B.towns,t.size<=100) (hA:B.alarm=0):iK tP 20 #[V.val B] u fun v w'=>v= .int .i64 0/\Kept u.heap.size u w':=
 acs (X:=fun v _=>v= .int .i64 0) (fun _ _ _ h _=>h) fun τ=>(c20 V B _ (hB.kept jD).book fun t ht=>Nat.le_trans (hz t ht) (by decide)).mono fun _ _ ⟨e1,hb⟩=>⟨_,e1,by rw[hA],hb⟩
theorem agQ (hn:B.links.length=n) (hB:dL u b1 V B) (hx:SlI u xa xs) (hl:xs.length=n) (hL:n<=1000000) (hr:aH B xs true=0):iK tP 21 #[V.val B,.slice xa n xc] u fun v w'=>v= .tuple #[.int .i64 (aQ B (trk xs) B.hours.toNat 0 1),.int .i64 0]/\Kept u.heap.size u w':=by
 subst hn;exact acN hB hx hl hL hr
end
end Go.Proofs.YtaikibfkggglgaaDoor
