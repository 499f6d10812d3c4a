/- A part of the proof of a law; no conditions of its own. -/
import Derived.Test.YtfiiffnbggnkfaaDoorAv24
open Go.RowKit renaming Below→bX
open Go renaming Value→vL, World→wD
open Go.IntKind renaming i64→qi
open Go.Value renaming int→iN, slice→sL, pointer→pN
set_option maxRecDepth 100000
open Go renaming undef→ud
open Nat renaming le_refl→nR
open Go.Lib renaming hid→lH
open Go.RowKit.Below renaming refl→bR
open Go.Proofs.Tryd renaming prog→tP
open Array renaming getElem?_eq_getElem→aG
open Go.World renaming block_lt_of_cell?→wBk
set_option maxHeartbeats 4000000
namespace Go.Proofs.YtfiiffnbggnkfaaDoor
open Go.RowKit Go.Rent Go.Tp Go.Conc
theorem NP {P:Program} {Q:List Item->Act->wD->Prop} {a:Act} {w:wD} {it:List Item} (tl:List Item) (h:Comes P it Q a w):Comes P (it++tl) (fun it' a w=> ∃i,it'=i++tl/\Q i a w) a w:=by
 intro b k cs;obtain⟨it',a',w',q,s⟩:=h b (tl++k) cs;exact⟨it'++tl,a',w',⟨it',rfl,q⟩,by simpa only[List.append_assoc] using s⟩
theorem NQ {f:FuncId} {R:vL->wD->Prop} {a b:Act} {w:wD} {it jt:List Item} (tl:List Item) (h: ∀u,Comes tP it (fun i a' u'=>i=jt/\a'=b/\u'=u) a u) (k:GL tP f (jt++tl) R b w):GL tP f (it++tl) R a w:=
 jM good (Q:=fun i a' u=>i=jt++tl/\a'=b/\ ∃τ,u=w.tp τ 0 noJ) (fun τ=>(NP tl (h _)).mono fun i a' u ⟨j,e1,e2,e3,e4⟩=>⟨by rw[e1,e2],e3,τ,e4⟩) fun i a' u ⟨e1,e2,τ,e3⟩=>by
  subst e1 e2 e3;exact oZ k
theorem aa2 (t0 t3:vL) (tb tofs n xc b9:Nat) (p:Int) (t10 t11 t12 t13 t14 t15 t16 t17 t18 t19 t20 t21 t22 t23 t24 t26 t27 t28 t29 t30 t31 t32 t33 t34 t35 t36 t37 t38 t39 t40 t41 t42:vL) (w:wD):
  Comes tP [.code rE] (fun it a u=>it= []/\a=YA t0 (sL (some ⟨tb,tofs,none⟩) n xc) (iN qi p) t3 b9 t10 t11 t12 t13 t14 t15 t16 t17 t18 t19 t20 t21 t22 t23 t24 (iN qi 7) (.bool false) t27 t28 t29 t30 t31 t32 t33 t34 t35 t36 t37 t38 t39 t40 t41 t42/\u=w) (YA t0 (sL (some ⟨tb,tofs,none⟩) n xc) (iN qi p) t3 b9 t10 t11 t12 t13 t14 t15 t16 t17 t18 t19 t20 t21 t22 t23 t24 (iN qi 7) t26 t27 t28 t29 t30 t31 t32 t33 t34 t35 t36 t37 t38 t39 t40 t41 t42) w:=by
 simp only[YA,rE,yrL,gV,Tryd.f23,Option.getD_some];refine bg ?_;go_wp2;exact dO ⟨rfl,rfl,rfl⟩
theorem NR {R:vL->wD->Prop} {a b:Act} {w:wD} {kk:List Item} {x:Code} (h: ∀u Q,x.wp tP (Exit.then (fun a' u'=>a'=b/\u'=u) (bodyPost tP Tryd.f23 Q)) a u) (k:GL tP 23 kk R b w):GL tP 23 (.code x::kk) R a w:=
 sQ good (fun a' u=>a'=b/\ ∃τ,u=w.tp τ 0 noJ) Tryd.func23 (fun τ=>Code.wp_mono (fun e a' u q=>by
  cases e with
  |normal=>exact⟨q.1,τ,q.2⟩
  |_=>exact q) (h _ _)) fun a' u ⟨e1,τ,e2⟩=>by
  subst e1 e2;exact oZ k
theorem aa3 {n:Nat} {w w':wD} {τ:Nat->Question->Nat} {d:Nat}:Kept n (w.tp τ d noJ) w'↔Kept n w w':=by
 have:=Kept.tp (n:=n) (w:=w) (w':=w') τ w'.tape d w'.drawn;rwa [dh] at this
theorem aa4:rF= .cond (.tmp 26) .skip (.exit 1):=rfl
theorem aa5 (t0 t3:vL) (tb tofs n xc b9:Nat) (p:Int) (t10 t11 t12 t13 t14 t15 t16 t17 t18 t19 t20 t21 t22 t23 t24 t25 t26 t27 t28 t29 t30 t31 t32 t33 t34 t35 t36 t37 t38 t39 t40 t41 t42:vL) (w:wD) (Q:Ending->wD->Prop) (hQ:Q (.returned (.tuple #[iN qi 0,.bool false,iN qi 0])) w):
  kZ.wp tP (bodyPost tP Tryd.f23 Q) (YA t0 (sL (some ⟨tb,tofs,none⟩) n xc) (iN qi p) t3 b9 t10 t11 t12 t13 t14 t15 t16 t17 t18 t19 t20 t21 t22 t23 t24 t25 t26 t27 t28 t29 t30 t31 t32 t33 t34 t35 t36 t37 t38 t39 t40 t41 t42) w:=by
 have HQ:=lH hQ;clear hQ;simp only[YA,kZ,gV,Tryd.f23,Option.getD_some];go_wp2;exact bodyPost_ret (v:= .tuple #[iN qi 0,.bool false,iN qi 0]) (by simp[results,go_sem]) rfl HQ.out
theorem bK.kept {w w':wD} {tb tofs n:Nat} {T:Nat->Int} (h:bK w tb tofs n T) (hk:Kept w.heap.size w w'):bK w' tb tofs n T:=⟨fun k hkk=>dV hk (nR _) (h.get k hkk),h.pos⟩
theorem Fj {w w':wD} {b9:Nat} {V:BkV} {B:Bk} (h:kE w b9 V B) (hk:Kept w.heap.size w w'):kE w' b9 V B:=by
 obtain⟨⟨c0,c1,c2,c3⟩,f0,f1,f2,f3⟩:=h;have hz:=wBk _ _ c0;have hf: ∀o,w'.frozen? ⟨b9,o,none⟩=w.frozen? ⟨b9,o,none⟩:=fun o=>by
  unfold World.frozen?;rw[hk.block b9 hz]
 exact⟨⟨dV hk (nR _) c0,dV hk (nR _) c1,dV hk (nR _) c2,dV hk (nR _) c3⟩,(hf 0).trans f0,(hf 1).trans f1,(hf 2).trans f2,(hf 3).trans f3⟩
def rG (w0:wD) (T:Nat->Int) (p:Int) (f k:Nat) (B:Bk) (v:vL) (w':wD):Prop:=v=aaQ (tY T p f k B)/\Kept w0.heap.size w0 w'
theorem aa6 (w0:wD) (t0 t3:vL) (tb tofs n xc b9:Nat) (p:Int) (hp:0<=p/\p<=100) (T:Nat->Int) (hT:bK w0 tb tofs n T) (hv:Vars w0) (hb9:w0.heap.size<=b9):
  ∀(f k:Nat) (_:k+f=7) (V:BkV) (B:Bk) (w:wD) (t10 t11 t12 t13 t14 t15 t16 t17 t18 t19 t20 t21 t22 t23 t24 t26 t27 t28 t29 t30 t31 t32 t33 t34 t35 t36 t37 t38 t39 t40 t41 t42:vL) (_:Kept w0.heap.size w0 w) (_:aB w V B) (_:fH w V) (_:V.pa=none->V.pc=0) (_:kE w b9 V B) (_:B.links.length=n),
   GL tP 23 [.code yrL,.inLoop yrL,.inBlock 1,.code kZ] (rG w0 T p f k B) (YA t0 (sL (some ⟨tb,tofs,none⟩) n xc) (iN qi p) t3 b9 t10 t11 t12 t13 t14 t15 t16 t17 t18 t19 t20 t21 t22 t23 t24 (iN qi (k:Int)) t26 t27 t28 t29 t30 t31 t32 t33 t34 t35 t36 t37 t38 t39 t40 t41 t42) w:=by
 intro f
 induction f with
 |zero=>
  intro k hk V B w t10 t11 t12 t13 t14 t15 t16 t17 t18 t19 t20 t21 t22 t23 t24 t26 t27 t28 t29 t30 t31 t32 t33 t34 t35 t36 t37 t38 t39 t40 t41 t42 hkw hs hr hpc hB hn;obtain rfl:k=7:=by omega
  refine Fh NK (kV good ?_);refine NQ (jt:= []) [.code (.seq rF (.seq (.block 2 gq) mX)),.inLoop yrL,.inBlock 1,.code kZ] (fun u=>aa2 t0 t3 tb tofs n xc b9 p t10 t11 t12 t13 t14 t15 t16 t17 t18 t19 t20 t21 t22 t23 t24 t26 t27 t28 t29 t30 t31 t32 t33 t34 t35 t36 t37 t38 t39 t40 t41 t42 u) ?_;refine kV good (Fh aa4 (sO good false (by rfl) ?_));refine YE good (k':= [.code kZ]) (by rfl) ?_;refine Bg good Tryd.func23 fun τ=>aa5 t0 t3 tb tofs n xc b9 p _ _ _ _ _ _ _ _ _ _ _ _ _ _ _ _ _ _ _ _ _ _ _ _ _ _ _ _ _ _ _ _ _ _ _ ⟨_,rfl,rfl,fC.2 hkw⟩
 |succ f ih=>
  intro k hk V B w t10 t11 t12 t13 t14 t15 t16 t17 t18 t19 t20 t21 t22 t23 t24 t26 t27 t28 t29 t30 t31 t32 t33 t34 t35 t36 t37 t38 t39 t40 t41 t42 hkw hs hr hpc hB hn;subst hn;refine Fh NK (kV good ?_);refine NQ (it:= [.code rE,.code (.seq rF (.seq (.block 2 gq) mX))]) [.inLoop yrL,.inBlock 1,.code kZ] (fun u=>aaU t0 t3 tb tofs B.links.length xc b9 p k (by omega) t10 t11 t12 t13 t14 t15 t16 t17 t18 t19 t20 t21 t22 t23 t24 t26 t27 t28 t29 t30 t31 t32 t33 t34 t35 t36 t37 t38 t39 t40 t41 t42 u) ?_;refine LP good ?_;refine jM good (Q:=fun it a u=>it= [.inRegion lg [2,3,4,5,6,7,8,9],.code oW,.code tZ,.inBlock 2,.code mX,.inLoop yrL,.inBlock 1,.code kZ]/\a=YA t0 (sL (some ⟨tb,tofs,none⟩) B.links.length xc) (iN qi p) t3 b9 (iN qi (k:Int)) t11 t12 t13 t14 t15 t16 t17 t18 t19 t20 t21 t22 t23 t24 (iN qi (k:Int)) (.bool true) (iN qi (k:Int)) (pN (some ⟨b9,0,none⟩)) (V.val B) t30 t31 t32 t33 t34 t35 t36 t37 t38 t39 t40 t41 t42/\ ∃τ,u=w.tp τ 0 noJ) (fun τ=> ?_) ?_
  ·have hc:=NP [.inBlock 2,.code mX,.inLoop yrL,.inBlock 1,.code kZ] (aaV t0 t3 tb tofs B.links.length xc b9 p k t10 t11 t12 t13 t14 t15 t16 t17 t18 t19 t20 t21 t22 t23 t24 (.bool true) t27 t28 t29 t30 t31 t32 t33 t34 t35 t36 t37 t38 t39 t40 t41 t42 (w.tp τ 0 noJ) V B (Fj hB (fC.2 (Kept.of_below (bR _ _)))));exact hc.mono fun it a u ⟨i,e1,e2,e3,e4⟩=>⟨by rw[e1,e2];rfl,e3,τ,e4⟩
  rintro it a u ⟨rfl,rfl,τ,rfl⟩;refine oZ ?_;refine aa1 _ _ t0 t3 tb tofs xc b9 p T _ _ _ _ _ _ _ _ _ _ _ _ _ _ _ _ _ _ _ _ _ _ _ _ _ _ _ _ _ _ _ _ _ w V B hs (hv.kept hkw) hr hB (hT.kept hkw) rfl rfl ?_;intro t11 t12 t13 t14 t15 t16 t17 t18 t19 t20 t21 t22 t23 t24 t26 t27 t28 t29 t30 t31 t32 t33 t34 t35 t36 t37 t38 t39 t40 t41 t42 w2 hk2 hA hA2;have hkw2:Kept w0.heap.size w0 w2:=hkw.trans (hk2.mono hkw.size);by_cases hgo:B.alarm=0/\jk B T=true
  ·have e37:t37= .bool false:=by have:=hA hgo.1 _ rfl;rw[hgo.2] at this;exact this
   subst e37;have eR:rG w0 T p (f+1) k B=rG w0 T p f (k+1) (bQ B p):=by
    funext v w'
    unfold rG;rw[tY,if_pos hgo]
   rw[eR];refine NR (fun u Q=>aaY t0 t3 tb tofs B.links.length xc b9 p k _ _ _ _ _ _ _ _ _ _ _ _ _ _ _ _ _ _ _ _ _ _ _ _ _ _ _ _ _ _ u Q) ?_;refine sQ good (fun a u=>(∃t39 t40 t41,a=YA t0 (sL (some ⟨tb,tofs,none⟩) B.links.length xc) (iN qi p) t3 b9 (iN qi (k:Int)) t11 t12 t13 t14 t15 t16 t17 t18 t19 t20 t21 t22 t23 t24 (iN qi (k:Int)) t26 t27 t28 t29 t30 t31 t32 t33 t34 t35 t36 (.bool false) t38 t39 t40 t41 t42)/\ ∃V',aB u V' (bQ B p)/\fH u V'/\(V'.pa=none->V'.pc=0)/\kE u b9 V' (bQ B p)/\Kept w0.heap.size w2 u) Tryd.func23 (fun τ=>Code.wp_mono (fun e a' u q=>by
    cases e with
    |normal=>
     obtain⟨q1,V',q2,q3,q4,q5,q6⟩:=q;exact⟨q1,V',q2,q3,q4,q5,aa3.1 (Kept.of_below q6)⟩
    |_=>exact q) (aa0 t0 t3 tb tofs B.links.length xc b9 p hp k _ _ _ _ _ _ _ _ _ _ _ _ _ _ _ _ _ _ _ _ _ _ _ _ _ _ _ _ _ _ _ _ (w2.tp τ 0 noJ) _ V B (gY hgo.1) (hs.kept hk2).tp hpc (Fj (Fj hB hk2) (fC.2 (Kept.of_below (bR _ _)))) w0.heap.size hb9)) ?_
   rintro a u ⟨⟨t39',t40',t41',rfl⟩,V',q2,q3,q4,q5,q6⟩;refine YB good ?_;refine NR (fun u Q=>aaZ t0 t3 tb tofs B.links.length xc b9 p k (by omega) _ _ _ _ _ _ _ _ _ _ _ _ _ _ _ _ _ _ _ _ _ _ _ _ _ _ _ _ _ _ _ _ u Q) ?_;refine YD good ?_;exact ih (k+1) (by omega) V' (bQ B p) u _ _ _ _ _ _ _ _ _ _ _ _ _ _ _ _ _ _ _ _ _ _ _ _ _ _ _ _ _ _ _ _ (hkw2.trans q6) q2 q3 q4 q5 rfl
  ·have e37:t37= .bool true:=by
    by_cases h0:B.alarm=0
    ·have:=hA h0 _ rfl;have hc:jk B T=false:=by
      cases e:jk B T with
      |true=>exact absurd ⟨h0,e⟩ hgo
      |false=>rfl
     rw[hc] at this;exact this
    ·exact hA2 h0
   subst e37;refine sQ good (fun _ _=>False) Tryd.func23 (fun τ=>aaX t0 t3 tb tofs B.links.length xc b9 p k _ _ _ _ _ _ _ _ _ _ _ _ _ _ _ _ _ _ _ _ _ _ _ _ _ _ _ _ _ _ (w2.tp τ 0 noJ) _ ⟨_,rfl, ?_,fC.2 hkw2⟩) (fun _ _ h=>h.elim);rw[tY,if_neg hgo];rfl
theorem aa7 (w:wD) (V:BkV) (B:Bk) (xs:List Int) (xa:Option Addr) (xc:Nat) (p:Int) (hs:aB w V B) (hr:fH w V) (hpc:V.pa=none->V.pc=0) (hv:Vars w) (hx:SlI w xa xs) (hxl:xs.length<=1000000) (hok:aH B xs true=0) (hp:btw p 0 100=true):
  iK tP 23 #[V.val B,sL xa xs.length xc,iN qi p] w (rG w (trk xs) p 7 0 B):=by
 refine(Bh good Tryd.func23 (x:=gV) (by rfl) (R:=rG w (trk xs) p 7 0 B) ?_).mono fun v w' h=>Bl (fun v w' τ d r=>⟨r.1,fC.1 r.2⟩) h;obtain⟨tb,tofs,rfl,hL⟩:=Ep hs hr hv hx hok;have hyr:=fun τ=>aaS V B xs (some ⟨tb,tofs,none⟩) xc p hp (w.tp τ 0 noJ) hs.tp hv.v2.tp hx.tp hxl hok;obtain⟨h0,h1,h2⟩:=nN hok;have hact:(⟨#[V.val B,sL (some ⟨tb,tofs,none⟩) xs.length xc,iN qi p]++Array.replicate (Tryd.f23.ntmps- #[V.val B,sL (some ⟨tb,tofs,none⟩) xs.length xc,iN qi p].size) ud,[]⟩:Act)=⟨#[V.val B,sL (some ⟨tb,tofs,none⟩) xs.length xc,iN qi p,ud,ud,ud,ud,ud,ud,ud,ud,ud,ud,ud,ud,ud,ud,ud,ud,ud,ud,ud,ud,ud,ud,ud,ud,ud,ud,ud,ud,ud,ud,ud,ud,ud,ud,ud,ud,ud,ud,ud,ud],[]⟩:=by
  rw[Tryd.ntmps23];simp[BkV.val,Array.replicate,List.replicate]
 rw[hact];refine jM good (Q:=fun it a u=> ∃t3 b9 t10 t11 t12 t13 t14 t15 t16 t17 t18 t19 t20 t21 t22 t23 t24,it= [.code (.block 1 (.loop yrL)),.code kZ]/\a=YA (V.val B) (sL (some ⟨tb,tofs,none⟩) xs.length xc) (iN qi p) t3 b9 t10 t11 t12 t13 t14 t15 t16 t17 t18 t19 t20 t21 t22 t23 t24 (iN qi 0) ud ud ud ud ud ud ud ud ud ud ud ud ud ud ud ud ud/\w.heap.size<=b9/\kE u b9 V B/\Kept w.heap.size w u) (fun τ=>(hyr τ).mono fun it a u ⟨t3,b9,t10,t11,t12,t13,t14,t15,t16,t17,t18,t19,t20,t21,t22,t23,t24,e1,e2,e3,e4,e5⟩=>⟨t3,b9,t10,t11,t12,t13,t14,t15,t16,t17,t18,t19,t20,t21,t22,t23,t24,e1,e2,by rwa [jO] at e3,e4,mD.1 (by have:=Kept.of_below e5;rwa [jO] at this)⟩) ?_;rintro it a u ⟨t3,b9,t10,t11,t12,t13,t14,t15,t16,t17,t18,t19,t20,t21,t22,t23,t24,rfl,rfl,hb9,hB,hk⟩;refine LP good (YC good ?_);have hT:bK w tb tofs xs.length (trk xs):=by rw[h1];exact hL.tr
 exact aa6 w (V.val B) t3 tb tofs xs.length xc b9 p (fK hp) (trk xs) hT hv hb9 7 0 (by omega) V B u _ _ _ _ _ _ _ _ _ _ _ _ _ _ _ _ _ _ _ _ _ _ _ _ _ _ _ _ _ _ _ _ hk (hs.kept hk) (hr.kept hk) hpc hB h1.symm
theorem lq:exB.alarm=0:=by decide+kernel
theorem aa8:aC exB kC=([4,3,1,0],80):=by decide+kernel
theorem Fp:aC exB aT=([2,1,1,2],60):=by decide+kernel
theorem aa9:oU exB= .tuple #[iN qi 3,iN qi 20,iN qi 0]:=by
 unfold oU;rw[if_pos lq,show mM exB=(3,20) by decide+kernel]
theorem NS (l:List Int) (h:l.length=4) (hb:dN l=false):aH exB l true=0:=by
 unfold aH;rw[if_pos lq,if_pos (by rw[h];rfl),hb];rfl
theorem abb:aH exB [4,3,1,0] (bP exB 0)=0:=by decide+kernel
theorem abd:jS exB (trk [4,3,1,0]) 0 exB.links.length= [(1,4),(1,3),(1,1),(0,0)]:=by decide+kernel
theorem abe:jA exB [2,1,1,0]= .tuple #[iN qi 2,iN qi 0]:=by
 unfold jA;rw[if_pos (by decide+kernel),show aQ exB (trk [2,1,1,0]) exB.hours.toNat 0 1=2 by decide+kernel]
theorem abf:jA exB [1,1,1,3]= .tuple #[iN qi 0,iN qi 0]:=by
 unfold jA;rw[if_pos (by decide+kernel),show aQ exB (trk [1,1,1,3]) exB.hours.toNat 0 1=0 by decide+kernel]
theorem abg:jA exB [2,1,1,2]= .tuple #[iN qi 1,iN qi 0]:=by
 unfold jA;rw[if_pos (by decide+kernel),show aQ exB (trk [2,1,1,2]) exB.hours.toNat 0 1=1 by decide+kernel]
theorem abh:kW exB (trk [2,2,1,3]) 4=ints [0,1,0,0]:=by
 have h:(List.range 4).map (ig exB (trk [2,2,1,3]))= [0,1,0,0]:=by decide+kernel
 unfold kW ints;rw[<-h,List.map_map];rfl
theorem abj:nU exB 2 1= .tuple #[iN qi 5,iN qi 0]:=by
 unfold nU;rw[if_pos (by decide+kernel),if_pos (by decide+kernel),show (aC (gtr 2 1 [1] exB).1 aT).2-(aC exB aT).2=5 by decide+kernel]
theorem abk:mW exB 0 75= .tuple #[iN qi 1,iN qi 0]:=by
 unfold mW;rw[if_neg (by rw[lq];decide),if_neg (by decide),if_neg (by rw[Fp];decide),show iE exB 0 75 5 0=1 by decide+kernel];rfl
theorem abl:mW exB 0 59= .tuple #[iN qi 0,iN qi 9]:=by
 unfold mW;rw[if_neg (by rw[lq];decide),if_neg (by decide),if_pos (by rw[Fp];decide)]
theorem abm:(bQ exB 50).alarm=0:=by decide+kernel
theorem abn:tY (trk [2,1,1,2]) 10 7 0 exB=some 1:=by decide+kernel
theorem abo:fitsV exB [2,1,1,3] [1,4,0]= .tuple #[.bool true,iN qi 0]:=by
 unfold fitsV;rw[if_pos (by decide+kernel),if_pos (by decide+kernel),if_neg (by decide+kernel),show Ew exB [2,1,1,3] [1,4,0]=true by decide+kernel]
theorem abp:oM exB [4,3,1,0]= .tuple #[iN qi 80,iN qi 0]:=by
 unfold oM;rw[if_pos (by decide+kernel),show fZ exB (trk [4,3,1,0]) ([4,3,1,0]:List Int).length=80 by decide+kernel]
theorem abq:oK exB [1,1,1,3]= .tuple #[iN qi 0,iN qi 0,iN qi 1,iN qi 0]:=by
 unfold oK;rw[if_pos (by decide+kernel)];have h0:exB.hours.toNat=1+1:=by decide+kernel
 have h1:exB.lackIn (trk [1,1,1,3]) true 0=0:=by decide+kernel
 have h2:exB.inn (trk [1,1,1,3]) true 0 0-trk [1,1,1,3] 0=1:=by decide+kernel
 rw[h0,iW,if_pos (by rw[h1];decide),h1];exact congrArg (fun x:Int=>Value.tuple #[iN qi 0,iN qi 0,iN qi x,iN qi 0]) h2
noncomputable def lu:Code:=Tryd.f5.body.getD .skip
noncomputable def lv5:Code:=match lu with
 | .seq _ (.seq _ (.seq _ (.seq _ (.seq _ c))))=>c
 |_=> .skip
structure NT (u:wD) (b1:Nat) (V:BkV):Prop where
 c0:u.cell? ⟨b1,0,none⟩=some (iN qi exB.hours)
 c1:u.cell? ⟨b1,1,none⟩=some (sL V.ta exB.towns.length V.tc)
 c2:u.cell? ⟨b1,2,none⟩=some (sL V.la exB.links.length V.lc)
 c3:u.cell? ⟨b1,3,none⟩=some (sL V.pa exB.pairs.length V.pc)
 book:aB u V exB
 rows:fH u V
 vars:Vars u
structure LvA (u:wD) (ha la9 ca:Nat):Prop where
 hub:SlI u (some ⟨ha,0,none⟩) [4,3,1,0]
 loads:SlB u (some ⟨la9,0,none⟩) [(1,4),(1,3),(1,1),(0,0)]
 cheap:SlI u (some ⟨ca,0,none⟩) [2,1,1,2]
def Fq (b1 ha hc la9 lc9 ca cc:Nat) (t40 t41 t42 t43 t44 t45 t46 t47 t48 t49 t50 t51 t52 t53 t54 t55 t56 t57 t58:vL):Act:=⟨#[.bool false,pN (some ⟨b1,0,none⟩),sL (some ⟨ha,0,none⟩) 4 hc,iN qi 80,iN qi 0,sL (some ⟨la9,0,none⟩) 4 lc9,iN qi 0,sL (some ⟨ca,0,none⟩) 4 cc,iN qi 60,iN qi 0,ud,ud,ud,ud,ud,ud,ud,ud,ud,ud,ud,ud,ud,ud,ud,ud,ud,ud,ud,ud,ud,ud,ud,ud,ud,ud,ud,ud,ud,ud,t40,t41,t42,t43,t44,t45,t46,t47,t48,t49,t50,t51,t52,t53,t54,t55,t56,t57,t58,ud,ud,ud,ud,ud,ud,ud,ud,ud,ud,ud,ud,ud,ud,ud,ud,ud,ud,ud,ud,ud,ud,ud,ud,ud,ud,ud,ud,ud,ud,ud,ud,ud,ud,ud,ud,ud,ud,ud,ud,ud,ud,ud,ud,ud,ud,ud,ud,ud,ud,ud,ud,ud,ud,ud,ud,ud,ud,ud,ud,ud,ud,ud,ud,ud,ud,ud,ud,ud,ud,ud,ud,ud,ud,ud,ud,ud,ud,ud,ud,ud,ud,ud,ud,ud,ud,ud,ud,ud,ud,ud,ud,ud,ud,ud,ud,ud,ud,ud,ud,ud,ud,ud,ud,ud,ud,ud,ud,ud,ud,ud,ud,ud,ud,ud,ud,ud,ud,ud,ud,ud,ud,ud,ud,ud,ud,ud,ud,ud,ud,ud,ud,ud,ud,ud,ud,ud,ud,ud,ud,ud,ud,ud,ud,ud,ud,ud,ud,ud,ud,ud,ud,ud,ud,ud,ud,ud,ud,ud,ud,ud,ud,ud,ud,ud,ud,ud,ud,ud,ud,ud,ud,ud,ud,ud,ud,ud,ud,ud,ud,ud,ud,ud,ud,ud,ud,ud,ud,ud,ud,ud,ud,ud,ud,ud,ud,ud,ud,ud,ud,ud,ud,ud,ud,ud,ud,ud,ud,ud,ud,ud,ud,ud,ud,ud,ud,ud,ud,ud,ud,ud,ud,ud,ud,ud,ud,ud,ud,ud,ud,ud,ud,ud,ud,ud,ud,ud,ud,ud,ud,ud,ud,ud],[]⟩
theorem abr (V:BkV) (u:wD) (hs:aB u V exB) (hv:Vars u):Calls tP 13 #[V.val exB] u fun e u'=> ∃fa fc,e= .returned (.tuple #[sL (some ⟨fa,0,none⟩) 4 fc,iN qi 80,iN qi 0])/\SlI u' (some ⟨fa,0,none⟩) [4,3,1,0]/\bX u.heap.size u u':=by
 refine(c49 V exB u hs hv).mono ?_;rintro e u' ⟨h1,_,h3⟩;obtain⟨fa,fc,e1,e2,_⟩:=h1 lq;rw[aa8] at e1 e2;exact⟨fa,fc,e1,e2,h3⟩
theorem abt (V:BkV) (u:wD) (hs:aB u V exB) (hv:Vars u):Calls tP 15 #[V.val exB] u fun e u'=> ∃fa fc,e= .returned (.tuple #[sL (some ⟨fa,0,none⟩) 4 fc,iN qi 60,iN qi 0])/\SlI u' (some ⟨fa,0,none⟩) [2,1,1,2]/\bX u.heap.size u u':=by
 refine(c39 V exB u hs hv).mono ?_;rintro e u' ⟨h1,_,h3⟩;obtain⟨fa,fc,e1,e2,_⟩:=h1 lq;rw[Fp] at e1 e2;exact⟨fa,fc,e1,e2,h3⟩
theorem abu (V:BkV) (u:wD) (b cap:Nat) (hs:aB u V exB) (hv:Vars u) (hx:SlI u (some ⟨b,0,none⟩) [4,3,1,0]):Calls tP 14 #[V.val exB,sL (some ⟨b,0,none⟩) 4 cap,iN qi 0] u fun e u'=> ∃fa fc,e= .returned (.tuple #[sL (some ⟨fa,0,none⟩) 4 fc,iN qi 0])/\SlB u' (some ⟨fa,0,none⟩) [(1,4),(1,3),(1,1),(0,0)]/\bX u.heap.size u u':=by
 refine(c16 V exB [4,3,1,0] (some ⟨b,0,none⟩) cap 0 u hs hv hx (by decide)).mono ?_;rintro e u' ⟨h1,_,h3⟩;obtain⟨fa,fc,e1,e2,_⟩:=h1 abb;have hb:jS exB (trk [4,3,1,0]) (0 :Int).toNat exB.links.length= [(1,4),(1,3),(1,1),(0,0)]:=abd;rw[hb] at e2;exact⟨fa,fc,e1,e2,h3⟩
theorem sl4 {u:wD} {b:Nat} {p q r s:Int} (h0:u.cell? ⟨b,0,none⟩=some (iN qi p)) (h1:u.cell? ⟨b,1,none⟩=some (iN qi q)) (h2:u.cell? ⟨b,2,none⟩=some (iN qi r)) (h3:u.cell? ⟨b,3,none⟩=some (iN qi s)):SlI u (some ⟨b,0,none⟩) [p,q,r,s]:=fun j x hx=>by
 match j,hx with
 | 0,hx=>cases hx;exact⟨b,0,rfl,h0⟩
 | 1,hx=>cases hx;exact⟨b,0,rfl,h1⟩
 | 2,hx=>cases hx;exact⟨b,0,rfl,h2⟩
 | 3,hx=>cases hx;exact⟨b,0,rfl,h3⟩
theorem abv (w:wD) (hv:Vars w):
  Comes tP [.code lu] (fun it a u=> ∃V b1 ha hc la9 lc9 ca cc t40 t41 t42 t43 t44 t45 t46 t47 t48 t49 t50 t51 t52 t53 t54 t55 t56 t57 t58,it= [.code lv5]/\a=Fq b1 ha hc la9 lc9 ca cc t40 t41 t42 t43 t44 t45 t46 t47 t48 t49 t50 t51 t52 t53 t54 t55 t56 t57 t58/\NT u b1 V/\LvA u ha la9 ca/\bX w.heap.size w u) ⟨#[ud,ud,ud,ud,ud,ud,ud,ud,ud,ud,ud,ud,ud,ud,ud,ud,ud,ud,ud,ud,ud,ud,ud,ud,ud,ud,ud,ud,ud,ud,ud,ud,ud,ud,ud,ud,ud,ud,ud,ud,ud,ud,ud,ud,ud,ud,ud,ud,ud,ud,ud,ud,ud,ud,ud,ud,ud,ud,ud,ud,ud,ud,ud,ud,ud,ud,ud,ud,ud,ud,ud,ud,ud,ud,ud,ud,ud,ud,ud,ud,ud,ud,ud,ud,ud,ud,ud,ud,ud,ud,ud,ud,ud,ud,ud,ud,ud,ud,ud,ud,ud,ud,ud,ud,ud,ud,ud,ud,ud,ud,ud,ud,ud,ud,ud,ud,ud,ud,ud,ud,ud,ud,ud,ud,ud,ud,ud,ud,ud,ud,ud,ud,ud,ud,ud,ud,ud,ud,ud,ud,ud,ud,ud,ud,ud,ud,ud,ud,ud,ud,ud,ud,ud,ud,ud,ud,ud,ud,ud,ud,ud,ud,ud,ud,ud,ud,ud,ud,ud,ud,ud,ud,ud,ud,ud,ud,ud,ud,ud,ud,ud,ud,ud,ud,ud,ud,ud,ud,ud,ud,ud,ud,ud,ud,ud,ud,ud,ud,ud,ud,ud,ud,ud,ud,ud,ud,ud,ud,ud,ud,ud,ud,ud,ud,ud,ud,ud,ud,ud,ud,ud,ud,ud,ud,ud,ud,ud,ud,ud,ud,ud,ud,ud,ud,ud,ud,ud,ud,ud,ud,ud,ud,ud,ud,ud,ud,ud,ud,ud,ud,ud,ud,ud,ud,ud,ud,ud,ud,ud,ud,ud,ud,ud,ud,ud,ud,ud,ud,ud,ud,ud,ud,ud,ud,ud,ud,ud,ud,ud,ud,ud,ud,ud,ud,ud,ud,ud,ud,ud,ud,ud,ud,ud,ud,ud,ud,ud,ud,ud,ud,ud,ud],[]⟩ w:=by
 simp only[lu,Tryd.f5,Option.getD_some];refine aK (bg ?_);go_wp2;refine aK (bg ?_)
 go_wp2_with fail
 refine(c54 w).mono ?_;rintro e w0 ⟨V,rfl,hs,hr,hb⟩;obtain⟨ta,la,pa,tc,lc,pc⟩:=V;go_wp2;generalize hWd:w0.alloc (.cells #[iN qi exB.hours,sL ta exB.towns.length tc,sL la exB.links.length lc,sL pa exB.pairs.length pc] 26)=W;have HBW:Hid (bX w.heap.size w W):=lH (by subst hWd;exact hb.trans (((bR _ _).alloc (nR _) _).mono hb.size));have hbW:bX w0.heap.size w0 W:=by subst hWd;exact(bR _ _).alloc (nR _) _
 have k0:W.cell? ⟨w0.heap.size,0,none⟩=some (iN qi exB.hours):=by subst hWd;go_simp
 have k1:W.cell? ⟨w0.heap.size,1,none⟩=some (sL ta exB.towns.length tc):=by subst hWd;go_simp
 have k2:W.cell? ⟨w0.heap.size,2,none⟩=some (sL la exB.links.length lc):=by subst hWd;go_simp
 have k3:W.cell? ⟨w0.heap.size,3,none⟩=some (sL pa exB.pairs.length pc):=by subst hWd;go_simp
 have hzW:w0.heap.size<W.heap.size:=by subst hWd;simp
 have hrW:fH W ⟨ta,la,pa,tc,lc,pc⟩:=⟨nS hr.ta hbW,nS hr.la hbW,nS hr.pa hbW⟩;have HB:Hid (∀u,bX W.heap.size W u->NT u w0.heap.size ⟨ta,la,pa,tc,lc,pc⟩):=lH fun u hu=>⟨aoF hu k0 (nR _),aoF hu k1 (nR _),aoF hu k2 (nR _),aoF hu k3 (nR _),(hs.below hbW (nR _)).below hu (nR _),⟨nS hrW.ta hu,nS hrW.la hu,nS hrW.pa hu⟩,hv.below (HBW.out.trans (hu.mono HBW.out.size))⟩;clear hWd hs hr hb hbW hrW hv;generalize w0.heap.size=b1 at *;refine aK (bg ?_)
 go_wp2_with fail
 refine(abr ⟨ta,la,pa,tc,lc,pc⟩ W (HB.out W (bR _ _)).book (HB.out W (bR _ _)).vars).mono ?_;rintro e w2 ⟨ha,hc,rfl,hhub,hb2⟩;have HH:=lH hhub;have HB2:=lH hb2;have d0:=aoF hb2 k0 (nR _);have d1:=aoF hb2 k1 (nR _);have d2:=aoF hb2 k2 (nR _);have d3:=aoF hb2 k3 (nR _);have hz2:b1<w2.heap.size:=Nat.lt_of_lt_of_le hzW hb2.size;clear hhub hb2 k0 k1 k2 k3;go_wp2;refine aK (bg ?_)
 go_wp2_with fail
 generalize hWe:w2.alloc (.cells #[iN qi 4,iN qi 3,iN qi 1,iN qi 0] 3)=W3;have hbe:bX w2.heap.size w2 W3:=by subst hWe;exact(bR _ _).alloc (nR _) _
 have hsl:SlI W3 (some ⟨w2.heap.size,0,none⟩) [4,3,1,0]:=by subst hWe;exact sl4 (by go_simp) (by go_simp) (by go_simp) (by go_simp)
 have HB3:=lH (HB2.out.trans (hbe.mono HB2.out.size));have hb3:=HB.out W3 HB3.out;refine(abu ⟨ta,la,pa,tc,lc,pc⟩ W3 w2.heap.size 4 hb3.book hb3.vars hsl).mono ?_;rintro e w4 ⟨la9,lc9,rfl,hlo,hb4⟩;have HH4:=lH ((HH.out.below hbe (nR _)).below hb4 (nR _));have HL4:=lH hlo;have HB4:=lH (HB3.out.trans (hb4.mono HB3.out.size));have hb4':=HB.out w4 HB4.out;have e0:=hb4'.c0;have e1:=hb4'.c1;have e2:=hb4'.c2;have e3:=hb4'.c3;have HK4:=lH hb4';have hz4:b1<w4.heap.size:=wBk _ _ e0;clear hWe hbe hsl hb3 hlo hb4 hb4' d0 d1 d2 d3 HH HB3 HB2;go_wp2;refine aK (bg ?_)
 go_wp2_with fail
 refine(abt ⟨ta,la,pa,tc,lc,pc⟩ w4 HK4.out.book HK4.out.vars).mono ?_;rintro e w5 ⟨ca,cc,rfl,hch,hb5⟩;have HA:Hid (LvA w5 ha la9 ca):=lH ⟨HH4.out.below hb5 (nR _),HL4.out.below hb5 (nR _),hch⟩;have HB5:=lH (HB4.out.trans (hb5.mono HB4.out.size));clear hch hb5 e0 e1 e2 e3 HH4 HL4;go_wp2;refine dO ⟨⟨ta,la,pa,tc,lc,pc⟩,b1,ha,hc,la9,lc9,ca,cc,_,_,_,_,_,_,_,_,_,_,_,_,_,_,_,_,_,_,_,rfl,rfl,HB.out w5 HB5.out,HA.out,HBW.out.trans (HB5.out.mono HBW.out.size)⟩
end Go.Proofs.YtfiiffnbggnkfaaDoor
namespace Go.Tp
open Go.Conc Go.RowKit
def gy (u:wD):wD:=mend {u with heap:= #[]} u
theorem abw (u:wD):Started (gy u):=Lr fun n o h=>by simp at h
def rH (u:wD):aW:=lX {u with heap:= #[]} u (fun _=>none)
theorem NU (u:wD):(rH u).ok:=Ll fun n o h=>by cases h
theorem Fv (u:wD):(gy u).tp u.tape u.drawn (rH u)=u:=Lp (T:=u.tape) (d:=u.drawn) (Nat.zero_le _) (fun _ hb=>absurd hb (Nat.not_lt_zero _)) rfl
theorem Fz (u:wD):(gy u).heap.size=u.heap.size:=Ba _ _
theorem abx {u:wD} {n:Nat} {c:Array vL} {t:TypeId} {z:Nat×Nat} (h:u.heap[n]? =some (.cells c t z)):(gy u).heap[n]? =some (.cells c t z):=Ls (Nat.zero_le _) h
theorem aby {P:Program} {fr:Frame} {w:wD} {v:vL} {fn:Func} (hm:fr.mode= .returning) (hd:fr.defers= []) (hk:fr.kind= .normal) (hf:P.funcs[fr.fn]? =some fn) (hr:results fn fr.tmps=pure v) (hi:P.inits.idxOf? fr.fn=none):stepG P true (G fr []) w= .ended (.done v) w #[]:=by
 simp[G,stepG,unwind,doReturn,hm,hd,hk,hf,hr,hi,seen,GStep.after]
theorem abz {P:Program} (G':Good P) {f:FuncId} {fn:Func} {x:Code} (hf:P.funcs[f]? =some fn) (hb:fn.body=some x) (hi:P.inits.idxOf? f=none)
  (hres: ∀t,∃v,results fn t=pure v) (W:wD) (args:Array vL) (R Post:vL->wD->Prop)
  (hR: ∀(v:vL) (w:wD) (τ:Nat->Question->Nat) (d d':Nat) (j:aW),j.ok->(gy W).heap.size<=w.heap.size->(∀n,n<(gy W).heap.size->j n=rH W n)->R v (w.tp τ d noJ)->Post v (w.tp W.tape d' j))
  (h:GL P f [.code x] R {tmps:=args++Array.replicate (fn.ntmps-args.size) ud,defers:= []} (gy W)):
  ∃M last o w' t',runNT P (M+1) (solo (G (Frame.enter P f args .normal) []) W) #[]=(.ended o w',t')/\runN P M (solo (G (Frame.enter P f args .normal) []) W)= .next last/\step P last= .ended o w'/\Conc.Good P Post last o w' t':=by
 have hok:aP (Frame.enter P f args .normal):=nG G'.bodies _ _ (by decide);rw[Ej args hf hb] at hok ⊢;have hl:=h [] ⟨⟨hok,fun y hy=>by cases hy⟩,rfl,rfl,abw W⟩;obtain⟨N,gs',g',w',d',j',sl',t',q',⟨hj',hz',hJ'⟩,hrun,h0,⟨⟨v,τ,d,⟨fr,rfl,hfr,hlv⟩,hv⟩,_⟩,hL,hP⟩:=hl W.tape (rH W) (NU W) #[_] W.drawn none #[] (fun _=>0) rfl (leavers_one P _) (past_nil.mono (Nat.zero_le _));rw[Fv] at hrun;have hat:Goes P true AtRel (fun _ _ es=>es= #[]) (AtEnd P pX w'.heap.size Post) 0 (G fr []) (w'.tp W.tape d' j'):=by
  rintro w1 ⟨d1,rfl⟩;refine⟨rfl,v,#[], ?_,fun e he=>by simp at he, ?_⟩
  ·obtain⟨fn',hf',hr'⟩:=hlv.2.2.2;have e:fn'=fn:=by rw[hfr,hf] at hf';exact(Option.some.inj hf').symm
   subst e;obtain⟨v',e'⟩:=hres fr.tmps;rw[e'] at hr';have:v'=v:=by simpa using hr'
   subst this;exact aby hlv.1 hlv.2.1 hlv.2.2.1 hf' e' (by rw[hfr];exact hi)
  ·have:=hR v w' τ d d1 j' hj' hz' hJ' hv;exact this
 obtain⟨M,last,o,w2,t2,h1,h2,h3,h4⟩:=beside_ends (fun w w' es e=>by subst e;intro e he;simp at he) h0 hL hP hat;have hr:runNT P N (solo (G ((aN f).at {tmps:=args++Array.replicate (fn.ntmps-args.size) ud,defers:= []} [.code x]) []) W) #[]=(.next (crowd gs' (w'.tp W.tape d' j') sl'),t'):=hrun;refine⟨N+M,last,o,w2,t2, ?_, ?_,h3,h4⟩
 ·rw[Nat.add_assoc,runNT_add,hr];exact h1
 ·rw[runN_add,<-runNT_fst P N _ #[],hr];exact h2
end Go.Tp
namespace Go.Proofs.YtfiiffnbggnkfaaDoor
open Go.RowKit Go.Rent Go.Tp Go.Conc
theorem SlB.kept {w w':wD} {sa:Option Addr} {xs:List (Int×Int)} (h:SlB w sa xs) (hk:Kept w.heap.size w w'):SlB w' sa xs:=by
 have:=(h.below hk.below (nR _)).tp (τ:=w'.tape) (d:=w'.drawn);rwa [dS,dh] at this
theorem jD {w:wD} {τ:Nat->Question->Nat} {d:Nat}:Kept w.heap.size w (w.tp τ d noJ):=fC.2 (Kept.of_below (bR _ _))
def SlA (a:Act):List (Nat×vL)->Prop
 | []=>True
 | (k,v)::l=>a.tmps[k]?.getD ud=v/\SlA a l
def Sl (a:Act) (N:Nat) (l:List (Nat×vL)):Prop:=a.tmps.size=N/\a.defers= []/\SlA a l
theorem SlA.other {a a':Act} {d:Nat} (h: ∀j,j≠d->a'.tmps[j]?.getD ud=a.tmps[j]?.getD ud): ∀{l:List (Nat×vL)},(l.map (·.1)).contains d=false->SlA a l->SlA a' l
 | [],_,_=>trivial
 | (k,v)::l,hn,hl=>by
  simp only[List.map_cons,List.contains_cons,Bool.or_eq_false_iff,beq_eq_false_iff_ne] at hn;exact⟨(h k (Ne.symm hn.1)).trans hl.1,SlA.other h hn.2 hl.2⟩
theorem Sl.put {a:Act} {N d:Nat} {l:List (Nat×vL)} {v:vL} (h:Sl a N l) (hd:d<N) (hn:(l.map (·.1)).contains d=false):Sl (a.put (some d) v) N ((d,v)::l):=by
 have p:=kP a (d:=d) v (by rw[h.1];exact hd);exact⟨p.size.trans h.1,p.defers.trans h.2.1,p.same,h.2.2.other p.other hn⟩
def up (t:Nat->vL):Nat->Nat->List vL
 | 0,_=> []
 |n+1,k=>t k::up t n (k+1)
theorem NV (t:Nat->vL): ∀n k,(up t n k).length=n
 | 0,_=>rfl
 |n+1,k=>by unfold up;rw[List.length_cons,NV t n]
theorem NW (t:Nat->vL): ∀n k i,i<n->(up t n k)[i]? =some (t (k+i))
 | 0,_,_,h=>by omega
 |n+1,k,0,_=>rfl
 |n+1,k,i+1,h=>by
  unfold up;rw[List.getElem?_cons_succ,NW t n (k+1) i (by omega),show k+1+i=k+(i+1) by omega]
def SlT (t:Nat->vL):List (Nat×vL)->Prop
 | []=>True
 | (k,v)::l=>t k=v/\SlT t l
theorem SlT.of {a:Act}: ∀{l:List (Nat×vL)},SlA a l->SlT (fun k=>a.tmps[k]?.getD ud) l
 | [],_=>trivial
 | (_,_)::_,h=>⟨h.1,SlT.of h.2⟩
theorem Sl.lit {a:Act} {N:Nat} {l:List (Nat×vL)} (h:Sl a N l): ∃t:Nat->vL,a=⟨(up t N 0).toArray,[]⟩/\SlT t l:=by
 refine⟨fun k=>a.tmps[k]?.getD ud, ?_,SlT.of h.2.2⟩;obtain⟨tm,df⟩:=a;obtain⟨h1,h2,_⟩:=h;simp only at h1 h2;subst h2
 congr 1
 apply Array.ext_getElem?;intro i;simp only[List.getElem?_toArray];by_cases hi:i<N
 ·rw[NW _ _ _ _ hi,Nat.zero_add,aG (by omega)];rfl
 ·rw[Array.getElem?_eq_none (by omega),List.getElem?_eq_none (by rw[NV];omega)]
structure dL (u:wD) (b1:Nat) (V:BkV) (B:Bk):Prop where
 c0:u.cell? ⟨b1,0,none⟩=some (iN qi B.hours)
 c1:u.cell? ⟨b1,1,none⟩=some (sL V.ta B.towns.length V.tc)
 c2:u.cell? ⟨b1,2,none⟩=some (sL V.la B.links.length V.lc)
 c3:u.cell? ⟨b1,3,none⟩=some (sL V.pa B.pairs.length V.pc)
 book:aB u V B
 rows:fH u V
 vars:Vars u
theorem dL.kept {u u':wD} {b1:Nat} {V:BkV} {B:Bk} (h:dL u b1 V B) (hk:Kept u.heap.size u u'):dL u' b1 V B:=
 ⟨dV hk (nR _) h.c0,dV hk (nR _) h.c1,dV hk (nR _) h.c2,dV hk (nR _) h.c3,h.book.kept hk,h.rows.kept hk,h.vars.kept hk⟩
theorem dL.below {u u':wD} {b1:Nat} {V:BkV} {B:Bk} (h:dL u b1 V B) (hk:bX u.heap.size u u'):dL u' b1 V B:=h.kept (Kept.of_below hk)
theorem rJ {w u:wD} {τ:Nat->Question->Nat} (hk:Kept w.heap.size w u) {u':wD} (h:bX (u.tp τ 0 noJ).heap.size (u.tp τ 0 noJ) u'):Kept w.heap.size w u':=
 hk.trans ((mD.1 (by have:=Kept.of_below h;rwa [jO] at this)).mono hk.size)
theorem pq {f:FuncId} {R:vL->wD->Prop} {a:Act} {w:wD} {it:List Item} {Q:(Nat->Question->Nat)->List Item->Act->wD->Prop} (h: ∀τ,Comes tP it (Q τ) a (w.tp τ 0 noJ)) (k: ∀τ it' a' w',Q τ it' a' w'->GL tP f it' R a' w'):GL tP f it R a w:=
 jM good (Q:=fun it a u=> ∃τ,Q τ it a u) (fun τ=>(h τ).mono fun _ _ _ q=>⟨τ,q⟩) fun it a u ⟨τ,q⟩=>k τ it a u q
def mY (w0:wD) (v:vL) (w':wD):Prop:=v= .bool true/\Kept w0.heap.size w0 w'
def FB:Prop:= ∀w,Vars w->iK tP 5 #[] w fun v w'=>v= .bool true/\Kept w.heap.size w w'
section
variable {f:FuncId} {fn:Func} {N r:Nat} {a:Act} {w w0:wD} {l:List (Nat×vL)} {ops:Array Oper} {i d:Nat} {rest:List Nat} {kk:List Item} {R:vL->wD->Prop} {o o0 o1 o2:Oper}
theorem NY {a:Act} (p0:o0.op= .call {callee:= .value (.func 5),args:= #[],argTypes:= #[]}) (u:wD):(execOp a.eval o0).run tP u= .ok (.enter 5 #[]) u:=by
 simp[execOp,p0,go_sem]
theorem NZ {v:vL} (hf:tP.funcs[f]? =some fn) (hd:a.defers= []) (hr: ∀u,(results fn a.tmps).run tP u= .ok v u) (hR: ∀τ,R v (w.tp τ 0 noJ)):GL tP f (.code .ret::kk) R a w:=
 sQ good (fun _ _=>False) hf (fun τ=>wp_ret ⟨hd,v,hr _,v,rfl,hR τ⟩) fun _ _ h=>h.elim
theorem vg {v:vL} (hS:Sl a N l) (ho:ops[i]? =some o) (hw:Region.wanted o (yielded ops a.tmps)=true) (hdst:o.dst=some d) (hd:d<N) (hn:(l.map (·.1)).contains d=false)
  (hr: ∀τ,(execOp a.eval o).run tP (w.tp τ 0 noJ)= .ok (.value v) (w.tp τ 0 noJ)) (h: ∀a',Sl a' N ((d,v)::l)->GL tP f (.inRegion ops rest::kk) R a' w):GL tP f (.inRegion ops (i::rest)::kk) R a w:=
 LQ good (fun v' u=>v'=v/\ ∃τ,u=w.tp τ 0 noJ) ho hw (fun τ=>⟨v,_,hr τ,rfl,τ,rfl⟩) fun v' u ⟨e,τ,e2⟩=>by
  subst e e2;have:=h _ (by have:=hS.put hd hn (v:=v');rw[<-hdst] at this;exact this);exact qL (τ:=w.tape) (d:=w.drawn) (by rw[dS,dh];exact this)
theorem FD {g:FuncId} {args:Array vL} {R1:vL->wD->Prop} (hS:Sl a N l) (ho:ops[i]? =some o) (hw:Region.wanted o (yielded ops a.tmps)=true) (hdst:o.dst=some d) (hd:d<N) (hn:(l.map (·.1)).contains d=false)
  (hr: ∀u,(execOp a.eval o).run tP u= .ok (.enter g args) u) (hcall:iK tP g args w R1) (k: ∀a' v w',R1 v w'->Sl a' N ((d,v)::l)->GL tP f (.inRegion ops rest::kk) R a' w'):GL tP f (.inRegion ops (i::rest)::kk) R a w:=
 qM good ho hw hr hcall fun v w' hv=>k _ v w' hv (by have:=hS.put hd hn (v:=v);rw[<-hdst] at this;exact this)
theorem Oa {a:Act} {v:vL} (h:a.tmps[r]?.getD ud=v) (hr:r<a.tmps.size) (hres:fn.results= #[.tmp r]) (u:wD):(results fn a.tmps).run tP u= .ok v u:=by
 simp[results,hres,aG hr] at h ⊢;exact h
theorem Ob (hL:FB) (hf:tP.funcs[f]? =some fn) (hres:fn.results= #[.tmp r]) (h0:ops[i]? =some o0) (h1:ops[i+1]? =some o1) (g0:o0.guard=none) (g1:o1.guard=none) (d0:o0.dst=some d) (d1:o1.dst=some r)
  (p0:o0.op= .call {callee:= .value (.func 5),args:= #[],argTypes:= #[]}) (p1:o1.op= .assign (.tmp d)) (hd:d<N) (hr:r<N) (hdr:d≠r) (hS:Sl a N []) (hv:Vars w) (hk:Kept w0.heap.size w0 w):
  GL tP f (.inRegion ops [i,i+1]:: .code .ret::kk) (mY w0) a w:=by
 refine FD hS h0 (by unfold Region.wanted;rw[g0]) d0 hd rfl (NY p0) (hL w hv) ?_;rintro a1 v w1 ⟨rfl,hk1⟩ hS1;refine vg (v:= .bool true) hS1 h1 (by unfold Region.wanted;rw[g1]) d1 hr (by simp[hdr.symm]) (fun u=>by
  have:=hS1.2.2.1;simp[execOp,p1,go_sem,this]) fun a2 hS2=> ?_
 refine lY good ?_;exact NZ hf hS2.2.1 (fun u=>Oa hS2.2.2.1 (by rw[hS2.1];exact hr) hres u) fun τ=>⟨rfl,fC.2 (hk.trans (hk1.mono hk.size))⟩
theorem abA {p q:Nat} (hL:FB) (hf:tP.funcs[f]? =some fn) (hres:fn.results= #[.tmp r]) (h0:ops[i]? =some o0) (h1:ops[i+1]? =some o1) (h2:ops[i+2]? =some o2) (hw:Region.wanted o0 (yielded ops a.tmps)=true) (g1:o1.guard=none) (g2:o2.guard=none) (d0:o0.dst=some d) (d1:o1.dst=some q) (d2:o2.dst=some r)
  (p0:o0.op= .call {callee:= .value (.func 5),args:= #[],argTypes:= #[]}) (p1:o1.op= .pick (.tmp p) (.tmp d) (.const (.bool false))) (p2:o2.op= .assign (.tmp q)) (hd:d<N) (hq:q<N) (hr:r<N) (hn:d≠p/\q≠d/\q≠p/\r≠q/\r≠d/\r≠p) (hS:Sl a N [(p,.bool true)]) (hv:Vars w) (hk:Kept w0.heap.size w0 w):
  GL tP f (.inRegion ops [i,i+1,i+2]:: .code .ret::kk) (mY w0) a w:=by
 obtain⟨n1,n2,n3,n4,n5,n6⟩:=hn;refine FD hS h0 hw d0 hd (by simp[n1]) (NY p0) (hL w hv) ?_;rintro a1 v w1 ⟨rfl,hk1⟩ hS1;refine vg (v:= .bool true) hS1 h1 (by unfold Region.wanted;rw[g1]) d1 hq (by simp[n2,n3]) (fun u=>by
  have e1:=hS1.2.2.1;have e2:=hS1.2.2.2.1;simp[execOp,p1,go_sem,e1,e2]) fun a2 hS2=> ?_
 refine vg (v:= .bool true) hS2 h2 (by unfold Region.wanted;rw[g2]) d2 hr (by simp[n4,n5,n6]) (fun u=>by
  have:=hS2.2.2.1;simp[execOp,p2,go_sem,this]) fun a3 hS3=> ?_
 refine lY good ?_;exact NZ hf hS3.2.1 (fun u=>Oa hS3.2.2.1 (by rw[hS3.1];exact hr) hres u) fun τ=>⟨rfl,fC.2 (hk.trans (hk1.mono hk.size))⟩
end
section
variable {f:FuncId} {N d s:Nat} {a:Act} {w:wD} {l:List (Nat×vL)} {ops:Array Oper} {i:Nat} {rest:List Nat} {kk:List Item} {R:vL->wD->Prop} {o:Oper}
theorem aU (v:vL) (hS:Sl a N l) (h: ∀a',Sl a' N ((d,v)::l)->GL tP f (.inRegion ops rest::kk) R a' w)
  (ho:ops[i]? =some o:=by rfl) (hw:Region.wanted o (yielded ops a.tmps)=true:=by rfl) (hdst:o.dst=some d:=by rfl) (hd:d<N:=by decide) (hn:(l.map (·.1)).contains d=false:=by rfl)
  (hr: ∀τ,(execOp a.eval o).run tP (w.tp τ 0 noJ)= .ok (.value v) (w.tp τ 0 noJ):=by intro τ;have h:=(‹Sl _ _ _›).2.2;simp only[SlA] at h;simp[go_sem,h]):
  GL tP f (.inRegion ops (i::rest)::kk) R a w:=vg hS ho hw hdst hd hn hr h
theorem BJ {b1:Nat} {V:BkV} {B:Bk} (hB:dL w b1 V B) (hS:Sl a N l) (h: ∀a',Sl a' N ((d,V.val B)::l)->GL tP f (.inRegion ops rest::kk) R a' w)
  (ho:ops[i]? =some o:=by rfl) (hw:Region.wanted o (yielded ops a.tmps)=true:=by rfl) (hdst:o.dst=some d:=by rfl) (hd:d<N:=by decide) (hn:(l.map (·.1)).contains d=false:=by rfl) (hp:o.op= .load 26 (.tmp s):=by rfl)
  (hs:a.tmps[s]?.getD ud= pN (some ⟨b1,0,none⟩):=by have h:=(‹Sl _ _ _›).2.2;simp only[SlA] at h;simp only[h]):
  GL tP f (.inRegion ops (i::rest)::kk) R a w:=vg hS ho hw hdst hd hn (fun τ=>by
   obtain⟨c0,c1,c2,c3,_,_,_⟩:=hB.kept (u':=w.tp τ 0 noJ) jD;obtain⟨dd,oo,ty,po,af,gu⟩:=o;simp only at hp;subst hp;go_simp) h
theorem BK (x y z u:Int) (hS:Sl a N l) (h: ∀a' w' b,Kept w.heap.size w w'->SlI w' (some ⟨b,0,none⟩) [x,y,z,u]->Sl a' N ((d,sL (some ⟨b,0,none⟩) 4 4)::l)->GL tP f (.inRegion ops rest::kk) R a' w')
  (ho:ops[i]? =some o:=by rfl) (hw:Region.wanted o (yielded ops a.tmps)=true:=by rfl) (hdst:o.dst=some d:=by rfl) (hd:d<N:=by decide) (hn:(l.map (·.1)).contains d=false:=by rfl)
  (hp:o.op= .buildSlice 42 4 #[(0,.const (iN qi x)),(1,.const (iN qi y)),(2,.const (iN qi z)),(3,.const (iN qi u))]:=by rfl):
  GL tP f (.inRegion ops (i::rest)::kk) R a w:=
 LQ good (fun v u'=> ∃b,v= sL (some ⟨b,0,none⟩) 4 4/\SlI u' (some ⟨b,0,none⟩) [x,y,z,u]/\Kept w.heap.size w u') ho hw (fun τ=>by
  obtain⟨dd,oo,ty,po,af,gu⟩:=o;simp only at hp;subst hp;refine⟨sL (some ⟨(w.tp τ 0 noJ).heap.size,0,none⟩) 4 4,(w.tp τ 0 noJ).alloc (.cells #[iN qi x,iN qi y,iN qi z,iN qi u] 3), ?_,_,rfl,sl4 ?_ ?_ ?_ ?_,rJ (Kept.refl _ _) ((bR _ _).alloc (nR _) _)⟩
  all_goals generalize w.tp τ 0 noJ=w1
  all_goals go_simp) fun v u' ⟨b,e,hx,hk⟩=>by
  subst e;refine h _ u' b hk hx ?_;have:=hS.put hd hn (v:= sL (some ⟨b,0,none⟩) 4 4);rw[<-hdst] at this;exact this
theorem pz {g:FuncId} {args:Array vL} {R1:vL->wD->Prop} (hcall:iK tP g args w R1) (hS:Sl a N l) (k: ∀a' v w',R1 v w'->Sl a' N ((d,v)::l)->GL tP f (.inRegion ops rest::kk) R a' w')
  (ho:ops[i]? =some o:=by rfl) (hw:Region.wanted o (yielded ops a.tmps)=true:=by rfl) (hdst:o.dst=some d:=by rfl) (hd:d<N:=by decide) (hn:(l.map (·.1)).contains d=false:=by rfl)
  (hr: ∀u,(execOp a.eval o).run tP u= .ok (.enter g args) u:=by intro u;have h:=(‹Sl _ _ _›).2.2;simp only[SlA] at h;simp[go_sem,h]):
  GL tP f (.inRegion ops (i::rest)::kk) R a w:=FD hS ho hw hdst hd hn hr hcall k
end
noncomputable def lw6:Code:=match lv5 with
 | .seq _ c=>c
 |_=> .skip
noncomputable def lw7:Code:=match lw6 with
 | .seq _ c=>c
 |_=> .skip
noncomputable def lw8:Code:=match lw7 with
 | .seq _ c=>c
 |_=> .skip
theorem abB {R:vL->wD->Prop} {b1 ha hc la9 lc9 ca cc:Nat} {a:Act} {u:wD} {V:BkV} (hB:dL u b1 V exB) (hS:Sl a 302 [(9,iN qi 0),(8,iN qi 60),(7,sL (some ⟨ca,0,none⟩) 4 cc),(6,iN qi 0),(5,sL (some ⟨la9,0,none⟩) 4 lc9),(4,iN qi 0),(3,iN qi 80),(2,sL (some ⟨ha,0,none⟩) 4 hc),(1,pN (some ⟨b1,0,none⟩)),(0,.bool false)])
  (k: ∀a' u',Kept u.heap.size u u'->Sl a' 302 [(11,iN qi 0),(10,iN qi 2),(9,iN qi 0),(8,iN qi 60),(7,sL (some ⟨ca,0,none⟩) 4 cc),(6,iN qi 0),(5,sL (some ⟨la9,0,none⟩) 4 lc9),(4,iN qi 0),(3,iN qi 80),(2,sL (some ⟨ha,0,none⟩) 4 hc),(1,pN (some ⟨b1,0,none⟩)),(0,.bool false)]->GL tP 5 [.code lw6] R a' u'):GL tP 5 [.code lv5] R a u:=by
 simp only[lv5,lu,Tryd.f5,Option.getD_some];refine kV good (oJ good ?_);refine BJ hB hS fun a hS=> ?_;refine BK 2 1 1 0 hS fun a u1 b hk1 hx hS=> ?_;have hB1:=hB.kept hk1;refine pz (qO u1 V exB [2,1,1,0] _ 4 hB1.book hB1.rows hB1.vars hx (by decide)) hS ?_;rintro a v u2 ⟨rfl,hk2⟩ hS;rw[abe] at hS;refine aU (.tuple #[iN qi 2,iN qi 0]) hS fun a hS=> ?_;refine aU (iN qi 2) hS fun a hS=> ?_;refine aU (iN qi 0) hS fun a hS=> ?_;refine aU (iN qi 2) hS fun a hS=> ?_;refine aU (iN qi 0) hS fun a hS=> ?_;refine lY good ?_;exact k a u2 (hk1.trans (hk2.mono hk1.size)) ⟨hS.1,hS.2.1,hS.2.2.1,hS.2.2.2.1,hS.2.2.2.2.2.2.2.2.2.2⟩
theorem abC {R:vL->wD->Prop} {b1 ha hc la9 lc9 ca cc:Nat} {a:Act} {u:wD} {V:BkV} (hB:dL u b1 V exB) (hS:Sl a 302 [(11,iN qi 0),(10,iN qi 2),(9,iN qi 0),(8,iN qi 60),(7,sL (some ⟨ca,0,none⟩) 4 cc),(6,iN qi 0),(5,sL (some ⟨la9,0,none⟩) 4 lc9),(4,iN qi 0),(3,iN qi 80),(2,sL (some ⟨ha,0,none⟩) 4 hc),(1,pN (some ⟨b1,0,none⟩)),(0,.bool false)])
  (k: ∀a' u',Kept u.heap.size u u'->Sl a' 302 [(13,iN qi 0),(12,iN qi 0),(11,iN qi 0),(10,iN qi 2),(9,iN qi 0),(8,iN qi 60),(7,sL (some ⟨ca,0,none⟩) 4 cc),(6,iN qi 0),(5,sL (some ⟨la9,0,none⟩) 4 lc9),(4,iN qi 0),(3,iN qi 80),(2,sL (some ⟨ha,0,none⟩) 4 hc),(1,pN (some ⟨b1,0,none⟩)),(0,.bool false)]->GL tP 5 [.code lw7] R a' u'):GL tP 5 [.code lw6] R a u:=by
 simp only[lw6,lv5,lu,Tryd.f5,Option.getD_some];refine kV good (oJ good ?_);refine BJ hB hS fun a hS=> ?_;refine BK 1 1 1 3 hS fun a u1 b hk1 hx hS=> ?_;have hB1:=hB.kept hk1;refine pz (qO u1 V exB [1,1,1,3] _ 4 hB1.book hB1.rows hB1.vars hx (by decide)) hS ?_;rintro a v u2 ⟨rfl,hk2⟩ hS;rw[abf] at hS;refine aU (.tuple #[iN qi 0,iN qi 0]) hS fun a hS=> ?_;refine aU (iN qi 0) hS fun a hS=> ?_;refine aU (iN qi 0) hS fun a hS=> ?_;refine aU (iN qi 0) hS fun a hS=> ?_;refine aU (iN qi 0) hS fun a hS=> ?_;refine lY good ?_;exact k a u2 (hk1.trans (hk2.mono hk1.size)) ⟨hS.1,hS.2.1,hS.2.2.1,hS.2.2.2.1,hS.2.2.2.2.2.2.2.2.2.2⟩
theorem abD {R:vL->wD->Prop} {b1 ha hc la9 lc9 ca cc:Nat} {a:Act} {u:wD} {V:BkV} (hB:dL u b1 V exB) (hS:Sl a 302 [(13,iN qi 0),(12,iN qi 0),(11,iN qi 0),(10,iN qi 2),(9,iN qi 0),(8,iN qi 60),(7,sL (some ⟨ca,0,none⟩) 4 cc),(6,iN qi 0),(5,sL (some ⟨la9,0,none⟩) 4 lc9),(4,iN qi 0),(3,iN qi 80),(2,sL (some ⟨ha,0,none⟩) 4 hc),(1,pN (some ⟨b1,0,none⟩)),(0,.bool false)])
  (k: ∀a' u',Kept u.heap.size u u'->Sl a' 302 [(15,iN qi 0),(14,iN qi 1),(13,iN qi 0),(12,iN qi 0),(11,iN qi 0),(10,iN qi 2),(9,iN qi 0),(8,iN qi 60),(7,sL (some ⟨ca,0,none⟩) 4 cc),(6,iN qi 0),(5,sL (some ⟨la9,0,none⟩) 4 lc9),(4,iN qi 0),(3,iN qi 80),(2,sL (some ⟨ha,0,none⟩) 4 hc),(1,pN (some ⟨b1,0,none⟩)),(0,.bool false)]->GL tP 5 [.code lw8] R a' u'):GL tP 5 [.code lw7] R a u:=by
 simp only[lw7,lw6,lv5,lu,Tryd.f5,Option.getD_some];refine kV good (oJ good ?_);refine BJ hB hS fun a hS=> ?_;refine BK 2 1 1 2 hS fun a u1 b hk1 hx hS=> ?_;have hB1:=hB.kept hk1;refine pz (qO u1 V exB [2,1,1,2] _ 4 hB1.book hB1.rows hB1.vars hx (by decide)) hS ?_;rintro a v u2 ⟨rfl,hk2⟩ hS;rw[abg] at hS;refine aU (.tuple #[iN qi 1,iN qi 0]) hS fun a hS=> ?_;refine aU (iN qi 1) hS fun a hS=> ?_;refine aU (iN qi 0) hS fun a hS=> ?_;refine aU (iN qi 1) hS fun a hS=> ?_;refine aU (iN qi 0) hS fun a hS=> ?_;refine lY good ?_;exact k a u2 (hk1.trans (hk2.mono hk1.size)) ⟨hS.1,hS.2.1,hS.2.2.1,hS.2.2.2.1,hS.2.2.2.2.2.2.2.2.2.2⟩
end Go.Proofs.YtfiiffnbggnkfaaDoor
