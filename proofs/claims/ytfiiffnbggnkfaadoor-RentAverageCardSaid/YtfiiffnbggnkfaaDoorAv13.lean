/- A part of the proof of a law; no conditions of its own. -/
import Derived.Test.YtfiiffnbggnkfaaDoorAv12
import Derived.DuoClaim
open Go renaming Frame→fR, Goroutine→gO, Value→vL, World→wD
open Go.IntKind renaming i64→qi
open Go.Value renaming int→iN, slice→sL, pointer→pN
open Go.Obj renaming cells→cL
set_option maxRecDepth 100000
open Go.Proofs.Tryd renaming prog→tP
open Array renaming getElem?_eq_some_iff→aS
open Array renaming getElem?_eq_getElem→aG
open Nat renaming lt_of_lt_of_le→nL
set_option maxHeartbeats 4000000
namespace Go.Proofs.YtfiiffnbggnkfaaDoor
open Go.RowKit Go.Rent Go.Tp Go.Conc
noncomputable def lW:Code:=match fV with
 | .seq _ c=>c
 |_=> .skip
noncomputable def kT:Code:=match lW with
 | .seq _ (.seq (.seq _ (.block _ (.loop c))) _)=>c
 |_=> .skip
noncomputable def rend:Code:=match lW with
 | .seq _ (.seq _ c)=>c
 |_=> .skip
structure iV (B:Bk) (T:Nat->Int) (n:Nat) (D:List Nat) (c:Array vL):Prop where
 size:c.size=n*3
 got: ∀h∈D,c[h*3]? =some (iN qi (h:Int))/\c[h*3+1]? =some (iN qi (B.lackIn T true h))/\c[h*3+2]? =some (iN qi (B.lackIn T false h))
theorem iV.put {B:Bk} {T:Nat->Int} {n:Nat} {D:List Nat} {c:Array vL} (h:iV B T n D c) {k:Nat} (hk:k<n) (hD:k∉D):
  iV B T n (k::D) (((c.setIfInBounds (k*3) (iN qi (k:Int))).setIfInBounds (k*3+1) (iN qi (B.lackIn T true k))).setIfInBounds (k*3+2) (iN qi (B.lackIn T false k))):=by
 have hs:=h.size;refine⟨by simp[hs],fun j hj=> ?_⟩;simp only[Array.getElem?_setIfInBounds,Array.size_setIfInBounds];by_cases e:j=k
 ·subst e;refine⟨?_, ?_, ?_⟩
  ·rw[if_neg (by omega),if_neg (by omega),if_pos rfl,if_pos (by omega)]
  ·rw[if_neg (by omega),if_pos rfl,if_pos (by omega)]
  ·rw[if_pos rfl,if_pos (by omega)]
 ·have hj':j∈D:=by
   rcases List.mem_cons.1 hj with h |h
   ·exact absurd h e
   ·exact h
  obtain⟨g1,g2,g3⟩:=h.got j hj';refine⟨?_, ?_, ?_⟩
  ·rw[if_neg (by omega),if_neg (by omega),if_neg (by omega)];exact g1
  ·rw[if_neg (by omega),if_neg (by omega),if_neg (by omega)];exact g2
  ·rw[if_neg (by omega),if_neg (by omega),if_neg (by omega)];exact g3
section
variable {u0:wD} {V:BkV} {B:Bk} {tb tofs tcap bb trb rA rB b5 b6:Nat} {T:Nat->Int}
def dJ (u:wD) (n o:Nat) (x y z:vL):wD:=((u.setCell ⟨n,o,none⟩ x).setCell ⟨n,o+1,none⟩ y).setCell ⟨n,o+2,none⟩ z
theorem Ee {w:wD} {c:Array vL} {t:TypeId} {z:Nat×Nat} {b:Nat} (o:Nat) (v:vL) (h:w.heap[b]? =some (cL c t z)):(w.setCell ⟨b,o,none⟩ v).heap[b]? =some (cL (c.setIfInBounds o v) t z):=by
 simp[World.setCell,Array.getElem?_modify,h]
theorem AX {w:wD} {c:Array vL} {t:TypeId} {q:Nat×Nat} {b:Nat} (h:w.heap[b]? =some (cL c t q)) (o:Nat) (x y z:vL):(dJ w b o x y z).heap[b]? =some (cL (((c.setIfInBounds o x).setIfInBounds (o+1) y).setIfInBounds (o+2) z) t q):=
 Ee _ _ (Ee _ _ (Ee _ _ h))
theorem KZ (u:wD) {n m:Nat} (hne:m≠n) (o:Nat) (x y z:vL):(dJ u n o x y z).heap[m]? =u.heap[m]? :=by
 unfold dJ;rw[qy _ _ _ (by exact hne),qy _ _ _ (by exact hne),qy _ _ _ (by exact hne)]
theorem La {u:wD} {n m:Nat} {q:Obj} (h:u.heap[m]? =some q) (hne:m≠n) (o:Nat) (x y z:vL):(dJ u n o x y z).heap[m]? =some q:=by
 rw[KZ u hne];exact h
theorem AY {H:Hold} {u:wD} {n:Nat} (hm:H.mine n) (o:Nat) (x y z:vL):Go.Tp.Does H H u (dJ u n o x y z):=
 ((Does.set H u _ _ hm).trans (Does.set H _ _ _ hm)).trans (Does.set H _ _ _ hm)
theorem dK {u:wD} {n:Nat} {c:Array vL} {t:TypeId} (h:u.heap[n]? =some (cL c t (0,0))) (i:Nat):u.frozen? ⟨n,i,none⟩=false:=by simp[World.frozen?,h]
theorem MK.set3 {H:Hold} {u:wD} (M:MK u0 V B tb tofs tcap bb trb rA rB b5 b6 H u) {n ob:Nat} (hn:n∉ [bb,trb,b5,b6]/\u0.heap.size<=n/\ob≠n) (o:Nat) (x y z:vL):MK u0 V B tb tofs tcap bb trb rA rB b5 b6 H (dJ u n o x y z):=
 M.does (by simp[Proofs.YtfiiffnbggnkfaaDoor.dJ]) (fun _ hx=>hx) fun b hb=>KZ u (by
  intro e;subst e
  rcases hb with hb |hb
  ·exact absurd hn.2.1 (by omega)
  ·exact hn.1 hb) o x y z
theorem Lc {H:Hold} {u u1:wD} {ob:Nat} {c x:Array vL} {t:TypeId} (M:MK u0 V B tb tofs tcap bb trb rA rB b5 b6 H u) (hm:H.mine ob) (hrow:u.heap[ob]? =some (cL c 99 (0,0))) (ho:Off H u u1):
  ∃n1 H2,u1.heap.size=n1/\H2.mine n1/\(u1.alloc (cL x t)).heap[n1]? =some (cL x t (0,0))/\MK u0 V B tb tofs tcap bb trb rA rB b5 b6 H2 (u1.alloc (cL x t))/\(n1∉ [bb,trb,b5,b6]/\u0.heap.size<=n1/\ob≠n1)/\H2.mine ob/\(u1.alloc (cL x t)).heap[ob]? =some (cL c 99 (0,0))/\H.more u1 (u1.alloc (cL x t))=H2:=by
 have M0:=M.off ho;have hr:=aY ho (.inl hm) hrow;refine⟨_,H.more u1 (u1.alloc (cL x t)),rfl,Or.inr ⟨Nat.le_refl _,by simp⟩,lU,M0.alloc _,⟨fun hmem=> ?_,M0.sz, ?_⟩,Or.inl hm,jf hr,rfl⟩
 ·have q1:=(aS.1 M0.rb).1;have q2:=(aS.1 M0.rt).1;have q3:=(aS.1 M0.r5).1;have q4:=(aS.1 M0.r6).1;simp only[List.mem_cons,List.not_mem_nil,or_false] at hmem;omega
 ·have:=(aS.1 hr).1;omega
structure RA (a:Act) (b5 b6 ob n:Nat) (hours:Int) (cnt:Nat):Prop where
 size:a.tmps.size=50
 defers:a.defers= []
 e5:a.tmps[5]?.getD undef= pN (some ⟨b5,0,none⟩)
 e6:a.tmps[6]?.getD undef= pN (some ⟨b6,0,none⟩)
 e8:a.tmps[8]?.getD undef= sL (some ⟨ob,0,none⟩) n n
 e27:a.tmps[27]?.getD undef= iN qi hours
 e28:a.tmps[28]?.getD undef= iN qi (cnt:Int)
theorem Ym (φ:Ph) (hHn:(φ.Hn:Int)=B.hours) (Fin:Hold->gO->wD->Prop) (b:fR) (cs:List fR) (kr:List Item) (hb:b.kind≠ .early) (ob:Nat) (D:List Nat) (hD:D.length=φ.Hn) (H:Hold) (u:wD) (a:Act) (hR:RA a b5 b6 ob φ.Hn B.hours D.length)
  (h: ∀a',RA a' b5 b6 ob φ.Hn B.hours D.length->MV tP true Fin (H,G (b.at a' (.code rend::kr)) cs,u)):
  MV tP true Fin (H,G (b.at a (.code kT:: .inLoop kT:: .inBlock 2:: .code rend::kr)) cs,u):=by
 obtain⟨hsz,hdf,e5,e6,e8,e27,e28⟩:=hR;simp only[kT,lW,fV,Tryd.f41];refine dZ (fU ?_);refine dB rfl rfl hb rfl (by rw[hsz];decide) (.bool false) (fun u'=> ?_) (fun u'=> ?_) fun a1 k1=> ?_
 ·simp[go_sem,e27,e28];omega
 ·simp[go_sem,e27,e28]
 replace e5:=(k1.other 5 (by decide)).trans e5;replace e6:=(k1.other 6 (by decide)).trans e6;replace e8:=(k1.other 8 (by decide)).trans e8;replace e27:=(k1.other 27 (by decide)).trans e27;replace e28:=(k1.other 28 (by decide)).trans e28;replace hsz:=k1.size.trans hsz;replace hdf:=k1.defers.trans hdf;have e29:=k1.same;clear k1;refine fG (dZ (oC false ((ev _ _).trans e29) ?_));exact Kt rfl (h a1 ⟨hsz,hdf,e5,e6,e8,e27,e28⟩)
theorem Yn (φ:Ph) (hHn:(φ.Hn:Int)=B.hours) (Fin:Hold->gO->wD->Prop) (b:fR) (cs:List fR) (kr:List Item) (hb:b.kind≠ .early) (ob:Nat) (hA:φ.chA=rA) (hB:φ.chB=rB) (hz:φ.z0= .agg #[iN qi 0,iN qi 0,iN qi 0]) (hval: ∀k,φ.val k=found B T k) (n:Nat) (D:List Nat) (hD:n+1+D.length=φ.Hn) (hh3:B.hours<=3) (H:Hold) (u:wD) (a:Act) (c:Array vL) (hR:RA a b5 b6 ob φ.Hn B.hours D.length) (M:MK u0 V B tb tofs tcap bb trb rA rB b5 b6 H u) (hob:ob∉ [bb,trb,b5,b6]) (hob0:u0.heap.size<=ob) (hm:H.mine ob) (hrow:u.heap[ob]? =some (cL c 99 (0,0))) (hO:iV B T φ.Hn D c)
  (ih: ∀(h:Nat),h<φ.Hn->h∉D-> ∀(H:Hold) (u:wD) (a:Act) (c:Array vL),RA a b5 b6 ob φ.Hn B.hours (D.length+1)->MK u0 V B tb tofs tcap bb trb rA rB b5 b6 H u->H.mine ob->u.heap[ob]? =some (cL c 99 (0,0))->iV B T φ.Hn (h::D) c->
   MV tP true (dU tP φ Fin n φ.Hn (h::D)) (H,G (b.at a (.code kT:: .inLoop kT:: .inBlock 2:: .code rend::kr)) cs,u)):
  MV tP true (dU tP φ Fin (n+1) φ.Hn D) (H,G (b.at a (.code kT:: .inLoop kT:: .inBlock 2:: .code rend::kr)) cs,u):=by
 obtain⟨hsz,hdf,e5,e6,e8,e27,e28⟩:=hR;simp only[kT,lW,fV,Tryd.f41] at ih ⊢;refine dZ (fU ?_);refine dB rfl rfl hb rfl (by rw[hsz];decide) (.bool true) (fun u'=> ?_) (fun u'=> ?_) fun a1 k1=> ?_
 ·simp[go_sem,e27,e28];omega
 ·simp[go_sem,e27,e28]
 replace e5:=(k1.other 5 (by decide)).trans e5;replace e6:=(k1.other 6 (by decide)).trans e6;replace e8:=(k1.other 8 (by decide)).trans e8;replace e27:=(k1.other 27 (by decide)).trans e27;replace e28:=(k1.other 28 (by decide)).trans e28;replace hsz:=k1.size.trans hsz;replace hdf:=k1.defers.trans hdf;have e29:=k1.same;clear k1;refine fG (dZ (oC true ((ev _ _).trans e29) (Kq (dZ (qA (dZ (dZ (fU ?_))))))));clear e29;refine nJ rfl rfl hb rfl (by rw[hsz];decide) (.chan (some rA)) (fun u' ho=> ?_) (fun u' ho e he=> ?_) fun a2 k2=> ?_
 ·have hc:=aA (aY ho (M.hd b5 (by simp)) M.r5) (i:=0) (by rfl);simp[go_sem,e5,hc]
 ·have hc:=aA (aY ho (M.hd b5 (by simp)) M.r5) (i:=0) (by rfl);simp[go_sem,e5,hc] at he;subst he;exact .read (M.hd b5 (by simp))
 replace e5:=(k2.other 5 (by decide)).trans e5;replace e6:=(k2.other 6 (by decide)).trans e6;replace e8:=(k2.other 8 (by decide)).trans e8;replace e27:=(k2.other 27 (by decide)).trans e27;replace e28:=(k2.other 28 (by decide)).trans e28;replace hsz:=k2.size.trans hsz;replace hdf:=k2.defers.trans hdf;have e30:=k2.same;clear k2;refine fG (fU ?_);refine nJ rfl rfl hb rfl (by rw[hsz];decide) (.chan (some rB)) (fun u' ho=> ?_) (fun u' ho e he=> ?_) fun a3 k3=> ?_
 ·have hc:=aA (aY ho (M.hd b6 (by simp)) M.r6) (i:=0) (by rfl);simp[go_sem,e6,hc]
 ·have hc:=aA (aY ho (M.hd b6 (by simp)) M.r6) (i:=0) (by rfl);simp[go_sem,e6,hc] at he;subst he;exact .read (M.hd b6 (by simp))
 replace e5:=(k3.other 5 (by decide)).trans e5;replace e6:=(k3.other 6 (by decide)).trans e6;replace e8:=(k3.other 8 (by decide)).trans e8;replace e27:=(k3.other 27 (by decide)).trans e27;replace e28:=(k3.other 28 (by decide)).trans e28;replace e30:=(k3.other 30 (by decide)).trans e30;replace hsz:=k3.size.trans hsz;replace hdf:=k3.defers.trans hdf;have e31:=k3.same;clear k3;refine fG (dZ (fU ?_));have hsm:dU tP φ Fin (n+1) φ.Hn D=AA tP φ (fun h x=>h∉D->MV tP true (dU tP φ Fin n φ.Hn (h::D)) x):=by
  funext H g u
  simp only[dU];rw[if_neg (by omega)]
 refine Wv hsm rfl rfl hb rfl (by rw[hsz];decide) (fun u'=> ?_) (fun u'=> ?_) fun h hh u1 ho1 a4 k4 hnD=> ?_
 ·simp[go_sem,e30,e31,Ph.cases,rcase,hA,hB,hz]
 ·simp[go_sem,e30,e31]
 have hcr:commResult φ.cases .select (if φ.isA h then 0 else 1) (φ.val h) true= .tuple (bif φ.isA h then #[iN qi 0,.bool true,found B T h,φ.z0] else #[iN qi 1,.bool true,φ.z0,found B T h]):=by
  cases φ.isA h<;>simp[commResult,Ph.cases,rcase,hval,goInt]
 rw[hcr] at k4;clear hcr;replace e5:=(k4.other 5 (by decide)).trans e5;replace e6:=(k4.other 6 (by decide)).trans e6;replace e8:=(k4.other 8 (by decide)).trans e8;replace e27:=(k4.other 27 (by decide)).trans e27;replace e28:=(k4.other 28 (by decide)).trans e28;replace e30:=(k4.other 30 (by decide)).trans e30;replace e31:=(k4.other 31 (by decide)).trans e31;replace hsz:=k4.size.trans hsz;replace hdf:=k4.defers.trans hdf;have e32:=k4.same;clear k4;clear e30;clear e31
 cases hiA:φ.isA h with
 |true=>
  simp only[hiA,cond_true] at e32;refine dB rfl rfl hb rfl (by rw[hsz];decide) (iN qi 0) (fun u'=> ?_) (fun u'=> ?_) fun a5 k5=> ?_
  ·simp[go_sem,e32]
  ·simp[go_sem,e32]
  replace e5:=(k5.other 5 (by decide)).trans e5;replace e6:=(k5.other 6 (by decide)).trans e6;replace e8:=(k5.other 8 (by decide)).trans e8;replace e27:=(k5.other 27 (by decide)).trans e27;replace e28:=(k5.other 28 (by decide)).trans e28;replace e32:=(k5.other 32 (by decide)).trans e32;replace hsz:=k5.size.trans hsz;replace hdf:=k5.defers.trans hdf;have e33:=k5.same;clear k5;refine dB rfl rfl hb rfl (by rw[hsz];decide) (.bool true) (fun u'=> ?_) (fun u'=> ?_) fun a6 k6=> ?_
  ·simp[go_sem,e33]
  ·simp[go_sem,e33]
  replace e5:=(k6.other 5 (by decide)).trans e5;replace e6:=(k6.other 6 (by decide)).trans e6;replace e8:=(k6.other 8 (by decide)).trans e8;replace e27:=(k6.other 27 (by decide)).trans e27;replace e28:=(k6.other 28 (by decide)).trans e28;replace e32:=(k6.other 32 (by decide)).trans e32;replace e33:=(k6.other 33 (by decide)).trans e33;replace hsz:=k6.size.trans hsz;replace hdf:=k6.defers.trans hdf;have e34:=k6.same;clear k6;refine dB rfl rfl hb rfl (by rw[hsz];decide) (.bool false) (fun u'=> ?_) (fun u'=> ?_) fun a7 k7=> ?_
  ·simp[go_sem,e33]
  ·simp[go_sem,e33]
  replace e5:=(k7.other 5 (by decide)).trans e5;replace e6:=(k7.other 6 (by decide)).trans e6;replace e8:=(k7.other 8 (by decide)).trans e8;replace e27:=(k7.other 27 (by decide)).trans e27;replace e28:=(k7.other 28 (by decide)).trans e28;replace e32:=(k7.other 32 (by decide)).trans e32;replace e33:=(k7.other 33 (by decide)).trans e33;replace e34:=(k7.other 34 (by decide)).trans e34;replace hsz:=k7.size.trans hsz;replace hdf:=k7.defers.trans hdf;have e35:=k7.same;clear k7;refine fG (qA (oC true ((ev _ _).trans e34) (dZ (fU ?_))));clear e33;clear e34;clear e35;refine dB rfl rfl hb rfl (by rw[hsz];decide) (found B T h) (fun u'=> ?_) (fun u'=> ?_) fun a8 k8=> ?_
  ·simp[go_sem,e32]
  ·simp[go_sem,e32]
  replace e5:=(k8.other 5 (by decide)).trans e5;replace e6:=(k8.other 6 (by decide)).trans e6;replace e8:=(k8.other 8 (by decide)).trans e8;replace e27:=(k8.other 27 (by decide)).trans e27;replace e28:=(k8.other 28 (by decide)).trans e28;replace e32:=(k8.other 32 (by decide)).trans e32;replace hsz:=k8.size.trans hsz;replace hdf:=k8.defers.trans hdf;have e36:=k8.same;clear k8;clear e32;refine DW rfl rfl hb rfl (by rw[hsz];decide) (fun n=> pN (some ⟨n,0,none⟩)) (cL #[iN qi 0,iN qi 0,iN qi 0] 99) (fun u'=> ?_) (fun u'=> ?_) fun u2 ho2 a9 k9=> ?_
  ·simp[go_sem]
  ·simp[go_sem]
  replace e5:=(k9.other 5 (by decide)).trans e5;replace e6:=(k9.other 6 (by decide)).trans e6;replace e8:=(k9.other 8 (by decide)).trans e8;replace e27:=(k9.other 27 (by decide)).trans e27;replace e28:=(k9.other 28 (by decide)).trans e28;replace e36:=(k9.other 36 (by decide)).trans e36;replace hsz:=k9.size.trans hsz;replace hdf:=k9.defers.trans hdf;have e9:=k9.same;clear k9;obtain⟨n1,H2,hn1,hm1,hr1,M1,hne1,hmo1,hro1,hob1⟩:=Lc M hm hrow (ho1.trans ho2);rw[hn1] at e9;rw[hob1];refine AP rfl rfl hb rfl fun u3 ho3=> ?_;have hr3:=aY ho3 (.inl hm1) hr1;refine⟨H2,Proofs.YtfiiffnbggnkfaaDoor.dJ u3 n1 0 (iN qi (h:Int)) (iN qi (B.lackIn T true h)) (iN qi (B.lackIn T false h)), ?_,AY hm1 _ _ _ _, ?_, ?_⟩
  ·have c0:=aA hr3 (i:=0) (by rfl);have c1:=aA hr3 (i:=1) (by rfl);have c2:=aA hr3 (i:=2) (by rfl);have f0:=dK hr3 0;have f1:=dK hr3 1;have f2:=dK hr3 2;simp[go_sem,e36,e9,found,Proofs.YtfiiffnbggnkfaaDoor.dJ,c0,c1,c2,f0,f1,f2]
  ·intro e he;have c0:=aA hr3 (i:=0) (by rfl);have c1:=aA hr3 (i:=1) (by rfl);have c2:=aA hr3 (i:=2) (by rfl);have f0:=dK hr3 0;have f1:=dK hr3 1;have f2:=dK hr3 2;simp[go_sem,e36,e9,found,c0,c1,c2,f0,f1,f2] at he
   rcases he with rfl |rfl |rfl<;>exact .write hm1
  have hr4:=AX hr3 0 (iN qi (h:Int)) (iN qi (B.lackIn T true h)) (iN qi (B.lackIn T false h));have M4:=(M1.off ho3).set3 (n:=n1) hne1 0 (iN qi (h:Int)) (iN qi (B.lackIn T true h)) (iN qi (B.lackIn T false h));have hro4:=La (aY ho3 (.inl hmo1) hro1) hne1.2.2 0 (iN qi (h:Int)) (iN qi (B.lackIn T true h)) (iN qi (B.lackIn T false h));generalize Proofs.YtfiiffnbggnkfaaDoor.dJ u3 n1 0 (iN qi (h:Int)) (iN qi (B.lackIn T true h)) (iN qi (B.lackIn T false h))=u4 at hr4 M4 hro4 ⊢;refine fG (fU ?_);clear e36;refine dB rfl rfl hb rfl (by rw[hsz];decide) (sL (some ⟨ob,0,none⟩) φ.Hn φ.Hn) (fun u'=> ?_) (fun u'=> ?_) fun a10 k10=> ?_
  ·simp[go_sem,e8]
  ·simp[go_sem]
  replace e5:=(k10.other 5 (by decide)).trans e5;replace e6:=(k10.other 6 (by decide)).trans e6;replace e8:=(k10.other 8 (by decide)).trans e8;replace e27:=(k10.other 27 (by decide)).trans e27;replace e28:=(k10.other 28 (by decide)).trans e28;replace e9:=(k10.other 9 (by decide)).trans e9;replace hsz:=k10.size.trans hsz;replace hdf:=k10.defers.trans hdf;have e37:=k10.same;clear k10;refine dB rfl rfl hb rfl (by rw[hsz];decide) (pN (some ⟨n1,0,none⟩)) (fun u'=> ?_) (fun u'=> ?_) fun a11 k11=> ?_
  ·simp[go_sem,e9]
  ·simp[go_sem,e9]
  replace e5:=(k11.other 5 (by decide)).trans e5;replace e6:=(k11.other 6 (by decide)).trans e6;replace e8:=(k11.other 8 (by decide)).trans e8;replace e27:=(k11.other 27 (by decide)).trans e27;replace e28:=(k11.other 28 (by decide)).trans e28;replace e9:=(k11.other 9 (by decide)).trans e9;replace e37:=(k11.other 37 (by decide)).trans e37;replace hsz:=k11.size.trans hsz;replace hdf:=k11.defers.trans hdf;have e38:=k11.same;clear k11;refine nJ rfl rfl hb rfl (by rw[hsz];decide) (iN qi (h:Int)) (fun u' ho=> ?_) (fun u' ho e he=> ?_) fun a12 k12=> ?_
  ·have c0:=aA (aY ho (.inl hm1) hr4) (i:=0) (by rfl);simp[go_sem,e38,c0]
  ·have c0:=aA (aY ho (.inl hm1) hr4) (i:=0) (by rfl);simp[go_sem,e38,c0] at he;subst he;exact .read (.inl hm1)
  replace e5:=(k12.other 5 (by decide)).trans e5;replace e6:=(k12.other 6 (by decide)).trans e6;replace e8:=(k12.other 8 (by decide)).trans e8;replace e27:=(k12.other 27 (by decide)).trans e27;replace e28:=(k12.other 28 (by decide)).trans e28;replace e9:=(k12.other 9 (by decide)).trans e9;replace e37:=(k12.other 37 (by decide)).trans e37;replace e38:=(k12.other 38 (by decide)).trans e38;replace hsz:=k12.size.trans hsz;replace hdf:=k12.defers.trans hdf;have e39:=k12.same;clear k12;refine nJ rfl rfl hb rfl (by rw[hsz];decide) (found B T h) (fun u' ho=> ?_) (fun u' ho e he=> ?_) fun a13 k13=> ?_
  ·have c0:=aA (aY ho (.inl hm1) hr4) (i:=0) (by rfl);have c1:=aA (aY ho (.inl hm1) hr4) (i:=1) (by rfl);have c2:=aA (aY ho (.inl hm1) hr4) (i:=2) (by rfl);simp[go_sem,e9,c0,c1,c2,found]
  ·have c0:=aA (aY ho (.inl hm1) hr4) (i:=0) (by rfl);have c1:=aA (aY ho (.inl hm1) hr4) (i:=1) (by rfl);have c2:=aA (aY ho (.inl hm1) hr4) (i:=2) (by rfl);simp[go_sem,e9,c0,c1,c2] at he
   rcases he with rfl |rfl |rfl<;>exact .read (.inl hm1)
  replace e5:=(k13.other 5 (by decide)).trans e5;replace e6:=(k13.other 6 (by decide)).trans e6;replace e8:=(k13.other 8 (by decide)).trans e8;replace e27:=(k13.other 27 (by decide)).trans e27;replace e28:=(k13.other 28 (by decide)).trans e28;replace e9:=(k13.other 9 (by decide)).trans e9;replace e37:=(k13.other 37 (by decide)).trans e37;replace e38:=(k13.other 38 (by decide)).trans e38;replace e39:=(k13.other 39 (by decide)).trans e39;replace hsz:=k13.size.trans hsz;replace hdf:=k13.defers.trans hdf;have e40:=k13.same;clear k13;clear e38;clear e9;have hi:(h:Int)<(φ.Hn:Int):=by omega
  refine dB rfl rfl hb rfl (by rw[hsz];decide) (pN (some ⟨ob,h*3,none⟩)) (fun u'=> ?_) (fun u'=> ?_) fun a14 k14=> ?_
  ·simp[go_sem,e37,e39,hi]
  ·simp[go_sem,e37,e39,hi]
  replace e5:=(k14.other 5 (by decide)).trans e5;replace e6:=(k14.other 6 (by decide)).trans e6;replace e8:=(k14.other 8 (by decide)).trans e8;replace e27:=(k14.other 27 (by decide)).trans e27;replace e28:=(k14.other 28 (by decide)).trans e28;replace e37:=(k14.other 37 (by decide)).trans e37;replace e39:=(k14.other 39 (by decide)).trans e39;replace e40:=(k14.other 40 (by decide)).trans e40;replace hsz:=k14.size.trans hsz;replace hdf:=k14.defers.trans hdf;have e41:=k14.same;clear k14;clear e37;clear e39;refine AP rfl rfl hb rfl fun u5 ho5=> ?_;have hro5:=aY ho5 (.inl hmo1) hro4;have hcs:=hO.size;refine⟨H2,Proofs.YtfiiffnbggnkfaaDoor.dJ u5 ob (h*3) (iN qi (h:Int)) (iN qi (B.lackIn T true h)) (iN qi (B.lackIn T false h)), ?_,AY hmo1 _ _ _ _, ?_, ?_⟩
  ·obtain⟨x0,hx0⟩: ∃x,c[h*3]? =some x:=⟨_,aG (by omega)⟩;obtain⟨x1,hx1⟩: ∃x,c[h*3+1]? =some x:=⟨_,aG (by omega)⟩;obtain⟨x2,hx2⟩: ∃x,c[h*3+2]? =some x:=⟨_,aG (by omega)⟩;have c0:=aA hro5 hx0;have c1:=aA hro5 hx1;have c2:=aA hro5 hx2;have f0:=dK hro5 (h*3);have f1:=dK hro5 (h*3+1);have f2:=dK hro5 (h*3+2);simp[go_sem,e41,e40,found,Proofs.YtfiiffnbggnkfaaDoor.dJ,c0,c1,c2,f0,f1,f2]
  ·intro e he;obtain⟨x0,hx0⟩: ∃x,c[h*3]? =some x:=⟨_,aG (by omega)⟩;obtain⟨x1,hx1⟩: ∃x,c[h*3+1]? =some x:=⟨_,aG (by omega)⟩;obtain⟨x2,hx2⟩: ∃x,c[h*3+2]? =some x:=⟨_,aG (by omega)⟩;have c0:=aA hro5 hx0;have c1:=aA hro5 hx1;have c2:=aA hro5 hx2;have f0:=dK hro5 (h*3);have f1:=dK hro5 (h*3+1);have f2:=dK hro5 (h*3+2);simp[go_sem,e41,e40,found,c0,c1,c2,f0,f1,f2] at he
   rcases he with rfl |rfl |rfl<;>exact .write hmo1
  have hr6:=AX hro5 (h*3) (iN qi (h:Int)) (iN qi (B.lackIn T true h)) (iN qi (B.lackIn T false h));have M6:=(M4.off ho5).set3 (n:=ob) (ob:=n1) ⟨hob,hob0,Ne.symm hne1.2.2⟩ (h*3) (iN qi (h:Int)) (iN qi (B.lackIn T true h)) (iN qi (B.lackIn T false h));generalize Proofs.YtfiiffnbggnkfaaDoor.dJ u5 ob (h*3) (iN qi (h:Int)) (iN qi (B.lackIn T true h)) (iN qi (B.lackIn T false h))=u6 at hr6 M6 ⊢;clear e40;clear e41;refine fG (sG (sG (fU ?_)));have hwr:IntKind.i64.wrap ((D.length:Int)+1)=(D.length:Int)+1:=IntWalk.i64_in _ (by omega);refine dB rfl rfl hb rfl (by rw[hsz];decide) (iN qi ((D.length:Int)+1)) (fun u'=> ?_) (fun u'=> ?_) fun a15 k15=> ?_
  ·simp[go_sem,e28,hwr]
  ·simp[go_sem,e28,hwr]
  replace e5:=(k15.other 5 (by decide)).trans e5;replace e6:=(k15.other 6 (by decide)).trans e6;replace e8:=(k15.other 8 (by decide)).trans e8;replace e27:=(k15.other 27 (by decide)).trans e27;replace e28:=(k15.other 28 (by decide)).trans e28;replace hsz:=k15.size.trans hsz;replace hdf:=k15.defers.trans hdf;have e48:=k15.same;clear k15;refine dB rfl rfl hb rfl (by rw[hsz];decide) (iN qi ((D.length:Int)+1)) (fun u'=> ?_) (fun u'=> ?_) fun a16 k16=> ?_
  ·simp[go_sem,e48]
  ·simp[go_sem]
  replace e5:=(k16.other 5 (by decide)).trans e5;replace e6:=(k16.other 6 (by decide)).trans e6;replace e8:=(k16.other 8 (by decide)).trans e8;replace e27:=(k16.other 27 (by decide)).trans e27;replace e48:=(k16.other 48 (by decide)).trans e48;replace hsz:=k16.size.trans hsz;replace hdf:=k16.defers.trans hdf;replace e28:=k16.same;clear k16;refine fG (DU ?_);exact ih h hh hnD H2 u6 _ _ ⟨hsz,hdf,e5,e6,e8,e27,by rw[e28];rfl⟩ M6 hmo1 hr6 (hO.put hh hnD)
 |false=>
  simp only[hiA,cond_false] at e32;refine dB rfl rfl hb rfl (by rw[hsz];decide) (iN qi 1) (fun u'=> ?_) (fun u'=> ?_) fun a5 k5=> ?_
  ·simp[go_sem,e32]
  ·simp[go_sem,e32]
  replace e5:=(k5.other 5 (by decide)).trans e5;replace e6:=(k5.other 6 (by decide)).trans e6;replace e8:=(k5.other 8 (by decide)).trans e8;replace e27:=(k5.other 27 (by decide)).trans e27;replace e28:=(k5.other 28 (by decide)).trans e28;replace e32:=(k5.other 32 (by decide)).trans e32;replace hsz:=k5.size.trans hsz;replace hdf:=k5.defers.trans hdf;have e33:=k5.same;clear k5;refine dB rfl rfl hb rfl (by rw[hsz];decide) (.bool false) (fun u'=> ?_) (fun u'=> ?_) fun a6 k6=> ?_
  ·simp[go_sem,e33]
  ·simp[go_sem,e33]
  replace e5:=(k6.other 5 (by decide)).trans e5;replace e6:=(k6.other 6 (by decide)).trans e6;replace e8:=(k6.other 8 (by decide)).trans e8;replace e27:=(k6.other 27 (by decide)).trans e27;replace e28:=(k6.other 28 (by decide)).trans e28;replace e32:=(k6.other 32 (by decide)).trans e32;replace e33:=(k6.other 33 (by decide)).trans e33;replace hsz:=k6.size.trans hsz;replace hdf:=k6.defers.trans hdf;have e34:=k6.same;clear k6;refine dB rfl rfl hb rfl (by rw[hsz];decide) (.bool true) (fun u'=> ?_) (fun u'=> ?_) fun a7 k7=> ?_
  ·simp[go_sem,e33]
  ·simp[go_sem,e33]
  replace e5:=(k7.other 5 (by decide)).trans e5;replace e6:=(k7.other 6 (by decide)).trans e6;replace e8:=(k7.other 8 (by decide)).trans e8;replace e27:=(k7.other 27 (by decide)).trans e27;replace e28:=(k7.other 28 (by decide)).trans e28;replace e32:=(k7.other 32 (by decide)).trans e32;replace e33:=(k7.other 33 (by decide)).trans e33;replace e34:=(k7.other 34 (by decide)).trans e34;replace hsz:=k7.size.trans hsz;replace hdf:=k7.defers.trans hdf;have e35:=k7.same;clear k7;refine fG (qA (oC false ((ev _ _).trans e34) (oC true ((ev _ _).trans e35) (dZ (fU ?_)))));clear e33;clear e34;clear e35;refine dB rfl rfl hb rfl (by rw[hsz];decide) (found B T h) (fun u'=> ?_) (fun u'=> ?_) fun a8 k8=> ?_
  ·simp[go_sem,e32]
  ·simp[go_sem,e32]
  replace e5:=(k8.other 5 (by decide)).trans e5;replace e6:=(k8.other 6 (by decide)).trans e6;replace e8:=(k8.other 8 (by decide)).trans e8;replace e27:=(k8.other 27 (by decide)).trans e27;replace e28:=(k8.other 28 (by decide)).trans e28;replace e32:=(k8.other 32 (by decide)).trans e32;replace hsz:=k8.size.trans hsz;replace hdf:=k8.defers.trans hdf;have e42:=k8.same;clear k8;clear e32;refine DW rfl rfl hb rfl (by rw[hsz];decide) (fun n=> pN (some ⟨n,0,none⟩)) (cL #[iN qi 0,iN qi 0,iN qi 0] 99) (fun u'=> ?_) (fun u'=> ?_) fun u2 ho2 a9 k9=> ?_
  ·simp[go_sem]
  ·simp[go_sem]
  replace e5:=(k9.other 5 (by decide)).trans e5;replace e6:=(k9.other 6 (by decide)).trans e6;replace e8:=(k9.other 8 (by decide)).trans e8;replace e27:=(k9.other 27 (by decide)).trans e27;replace e28:=(k9.other 28 (by decide)).trans e28;replace e42:=(k9.other 42 (by decide)).trans e42;replace hsz:=k9.size.trans hsz;replace hdf:=k9.defers.trans hdf;have e10:=k9.same;clear k9;obtain⟨n1,H2,hn1,hm1,hr1,M1,hne1,hmo1,hro1,hob1⟩:=Lc M hm hrow (ho1.trans ho2);rw[hn1] at e10;rw[hob1];refine AP rfl rfl hb rfl fun u3 ho3=> ?_;have hr3:=aY ho3 (.inl hm1) hr1;refine⟨H2,Proofs.YtfiiffnbggnkfaaDoor.dJ u3 n1 0 (iN qi (h:Int)) (iN qi (B.lackIn T true h)) (iN qi (B.lackIn T false h)), ?_,AY hm1 _ _ _ _, ?_, ?_⟩
  ·have c0:=aA hr3 (i:=0) (by rfl);have c1:=aA hr3 (i:=1) (by rfl);have c2:=aA hr3 (i:=2) (by rfl);have f0:=dK hr3 0;have f1:=dK hr3 1;have f2:=dK hr3 2;simp[go_sem,e42,e10,found,Proofs.YtfiiffnbggnkfaaDoor.dJ,c0,c1,c2,f0,f1,f2]
  ·intro e he;have c0:=aA hr3 (i:=0) (by rfl);have c1:=aA hr3 (i:=1) (by rfl);have c2:=aA hr3 (i:=2) (by rfl);have f0:=dK hr3 0;have f1:=dK hr3 1;have f2:=dK hr3 2;simp[go_sem,e42,e10,found,c0,c1,c2,f0,f1,f2] at he
   rcases he with rfl |rfl |rfl<;>exact .write hm1
  have hr4:=AX hr3 0 (iN qi (h:Int)) (iN qi (B.lackIn T true h)) (iN qi (B.lackIn T false h));have M4:=(M1.off ho3).set3 (n:=n1) hne1 0 (iN qi (h:Int)) (iN qi (B.lackIn T true h)) (iN qi (B.lackIn T false h));have hro4:=La (aY ho3 (.inl hmo1) hro1) hne1.2.2 0 (iN qi (h:Int)) (iN qi (B.lackIn T true h)) (iN qi (B.lackIn T false h));generalize Proofs.YtfiiffnbggnkfaaDoor.dJ u3 n1 0 (iN qi (h:Int)) (iN qi (B.lackIn T true h)) (iN qi (B.lackIn T false h))=u4 at hr4 M4 hro4 ⊢;refine fG (fU ?_);clear e42;refine dB rfl rfl hb rfl (by rw[hsz];decide) (sL (some ⟨ob,0,none⟩) φ.Hn φ.Hn) (fun u'=> ?_) (fun u'=> ?_) fun a10 k10=> ?_
  ·simp[go_sem,e8]
  ·simp[go_sem]
  replace e5:=(k10.other 5 (by decide)).trans e5;replace e6:=(k10.other 6 (by decide)).trans e6;replace e8:=(k10.other 8 (by decide)).trans e8;replace e27:=(k10.other 27 (by decide)).trans e27;replace e28:=(k10.other 28 (by decide)).trans e28;replace e10:=(k10.other 10 (by decide)).trans e10;replace hsz:=k10.size.trans hsz;replace hdf:=k10.defers.trans hdf;have e43:=k10.same;clear k10;refine dB rfl rfl hb rfl (by rw[hsz];decide) (pN (some ⟨n1,0,none⟩)) (fun u'=> ?_) (fun u'=> ?_) fun a11 k11=> ?_
  ·simp[go_sem,e10]
  ·simp[go_sem,e10]
  replace e5:=(k11.other 5 (by decide)).trans e5;replace e6:=(k11.other 6 (by decide)).trans e6;replace e8:=(k11.other 8 (by decide)).trans e8;replace e27:=(k11.other 27 (by decide)).trans e27;replace e28:=(k11.other 28 (by decide)).trans e28;replace e10:=(k11.other 10 (by decide)).trans e10;replace e43:=(k11.other 43 (by decide)).trans e43;replace hsz:=k11.size.trans hsz;replace hdf:=k11.defers.trans hdf;have e44:=k11.same;clear k11;refine nJ rfl rfl hb rfl (by rw[hsz];decide) (iN qi (h:Int)) (fun u' ho=> ?_) (fun u' ho e he=> ?_) fun a12 k12=> ?_
  ·have c0:=aA (aY ho (.inl hm1) hr4) (i:=0) (by rfl);simp[go_sem,e44,c0]
  ·have c0:=aA (aY ho (.inl hm1) hr4) (i:=0) (by rfl);simp[go_sem,e44,c0] at he;subst he;exact .read (.inl hm1)
  replace e5:=(k12.other 5 (by decide)).trans e5;replace e6:=(k12.other 6 (by decide)).trans e6;replace e8:=(k12.other 8 (by decide)).trans e8;replace e27:=(k12.other 27 (by decide)).trans e27;replace e28:=(k12.other 28 (by decide)).trans e28;replace e10:=(k12.other 10 (by decide)).trans e10;replace e43:=(k12.other 43 (by decide)).trans e43;replace e44:=(k12.other 44 (by decide)).trans e44;replace hsz:=k12.size.trans hsz;replace hdf:=k12.defers.trans hdf;have e45:=k12.same;clear k12;refine nJ rfl rfl hb rfl (by rw[hsz];decide) (found B T h) (fun u' ho=> ?_) (fun u' ho e he=> ?_) fun a13 k13=> ?_
  ·have c0:=aA (aY ho (.inl hm1) hr4) (i:=0) (by rfl);have c1:=aA (aY ho (.inl hm1) hr4) (i:=1) (by rfl);have c2:=aA (aY ho (.inl hm1) hr4) (i:=2) (by rfl);simp[go_sem,e10,c0,c1,c2,found]
  ·have c0:=aA (aY ho (.inl hm1) hr4) (i:=0) (by rfl);have c1:=aA (aY ho (.inl hm1) hr4) (i:=1) (by rfl);have c2:=aA (aY ho (.inl hm1) hr4) (i:=2) (by rfl);simp[go_sem,e10,c0,c1,c2] at he
   rcases he with rfl |rfl |rfl<;>exact .read (.inl hm1)
  replace e5:=(k13.other 5 (by decide)).trans e5;replace e6:=(k13.other 6 (by decide)).trans e6;replace e8:=(k13.other 8 (by decide)).trans e8;replace e27:=(k13.other 27 (by decide)).trans e27;replace e28:=(k13.other 28 (by decide)).trans e28;replace e10:=(k13.other 10 (by decide)).trans e10;replace e43:=(k13.other 43 (by decide)).trans e43;replace e44:=(k13.other 44 (by decide)).trans e44;replace e45:=(k13.other 45 (by decide)).trans e45;replace hsz:=k13.size.trans hsz;replace hdf:=k13.defers.trans hdf;have e46:=k13.same;clear k13;clear e44;clear e10;have hi:(h:Int)<(φ.Hn:Int):=by omega
  refine dB rfl rfl hb rfl (by rw[hsz];decide) (pN (some ⟨ob,h*3,none⟩)) (fun u'=> ?_) (fun u'=> ?_) fun a14 k14=> ?_
  ·simp[go_sem,e43,e45,hi]
  ·simp[go_sem,e43,e45,hi]
  replace e5:=(k14.other 5 (by decide)).trans e5;replace e6:=(k14.other 6 (by decide)).trans e6;replace e8:=(k14.other 8 (by decide)).trans e8;replace e27:=(k14.other 27 (by decide)).trans e27;replace e28:=(k14.other 28 (by decide)).trans e28;replace e43:=(k14.other 43 (by decide)).trans e43;replace e45:=(k14.other 45 (by decide)).trans e45;replace e46:=(k14.other 46 (by decide)).trans e46;replace hsz:=k14.size.trans hsz;replace hdf:=k14.defers.trans hdf;have e47:=k14.same;clear k14;clear e43;clear e45;refine AP rfl rfl hb rfl fun u5 ho5=> ?_;have hro5:=aY ho5 (.inl hmo1) hro4;have hcs:=hO.size;refine⟨H2,Proofs.YtfiiffnbggnkfaaDoor.dJ u5 ob (h*3) (iN qi (h:Int)) (iN qi (B.lackIn T true h)) (iN qi (B.lackIn T false h)), ?_,AY hmo1 _ _ _ _, ?_, ?_⟩
  ·obtain⟨x0,hx0⟩: ∃x,c[h*3]? =some x:=⟨_,aG (by omega)⟩;obtain⟨x1,hx1⟩: ∃x,c[h*3+1]? =some x:=⟨_,aG (by omega)⟩;obtain⟨x2,hx2⟩: ∃x,c[h*3+2]? =some x:=⟨_,aG (by omega)⟩;have c0:=aA hro5 hx0;have c1:=aA hro5 hx1;have c2:=aA hro5 hx2;have f0:=dK hro5 (h*3);have f1:=dK hro5 (h*3+1);have f2:=dK hro5 (h*3+2);simp[go_sem,e47,e46,found,Proofs.YtfiiffnbggnkfaaDoor.dJ,c0,c1,c2,f0,f1,f2]
  ·intro e he;obtain⟨x0,hx0⟩: ∃x,c[h*3]? =some x:=⟨_,aG (by omega)⟩;obtain⟨x1,hx1⟩: ∃x,c[h*3+1]? =some x:=⟨_,aG (by omega)⟩;obtain⟨x2,hx2⟩: ∃x,c[h*3+2]? =some x:=⟨_,aG (by omega)⟩;have c0:=aA hro5 hx0;have c1:=aA hro5 hx1;have c2:=aA hro5 hx2;have f0:=dK hro5 (h*3);have f1:=dK hro5 (h*3+1);have f2:=dK hro5 (h*3+2);simp[go_sem,e47,e46,found,c0,c1,c2,f0,f1,f2] at he
   rcases he with rfl |rfl |rfl<;>exact .write hmo1
  have hr6:=AX hro5 (h*3) (iN qi (h:Int)) (iN qi (B.lackIn T true h)) (iN qi (B.lackIn T false h));have M6:=(M4.off ho5).set3 (n:=ob) (ob:=n1) ⟨hob,hob0,Ne.symm hne1.2.2⟩ (h*3) (iN qi (h:Int)) (iN qi (B.lackIn T true h)) (iN qi (B.lackIn T false h));generalize Proofs.YtfiiffnbggnkfaaDoor.dJ u5 ob (h*3) (iN qi (h:Int)) (iN qi (B.lackIn T true h)) (iN qi (B.lackIn T false h))=u6 at hr6 M6 ⊢;clear e46;clear e47;refine fG (sG (sG (fU ?_)));have hwr:IntKind.i64.wrap ((D.length:Int)+1)=(D.length:Int)+1:=IntWalk.i64_in _ (by omega);refine dB rfl rfl hb rfl (by rw[hsz];decide) (iN qi ((D.length:Int)+1)) (fun u'=> ?_) (fun u'=> ?_) fun a15 k15=> ?_
  ·simp[go_sem,e28,hwr]
  ·simp[go_sem,e28,hwr]
  replace e5:=(k15.other 5 (by decide)).trans e5;replace e6:=(k15.other 6 (by decide)).trans e6;replace e8:=(k15.other 8 (by decide)).trans e8;replace e27:=(k15.other 27 (by decide)).trans e27;replace e28:=(k15.other 28 (by decide)).trans e28;replace hsz:=k15.size.trans hsz;replace hdf:=k15.defers.trans hdf;have e48:=k15.same;clear k15;refine dB rfl rfl hb rfl (by rw[hsz];decide) (iN qi ((D.length:Int)+1)) (fun u'=> ?_) (fun u'=> ?_) fun a16 k16=> ?_
  ·simp[go_sem,e48]
  ·simp[go_sem]
  replace e5:=(k16.other 5 (by decide)).trans e5;replace e6:=(k16.other 6 (by decide)).trans e6;replace e8:=(k16.other 8 (by decide)).trans e8;replace e27:=(k16.other 27 (by decide)).trans e27;replace e48:=(k16.other 48 (by decide)).trans e48;replace hsz:=k16.size.trans hsz;replace hdf:=k16.defers.trans hdf;replace e28:=k16.same;clear k16;refine fG (DU ?_);exact ih h hh hnD H2 u6 _ _ ⟨hsz,hdf,e5,e6,e8,e27,by rw[e28];rfl⟩ M6 hmo1 hr6 (hO.put hh hnD)
end
section
variable {u0:wD} {V:BkV} {B:Bk} {tb tofs tcap bb trb rA rB b5 b6:Nat} {T:Nat->Int}
theorem Ld (φ:Ph) (hHn:(φ.Hn:Int)=B.hours) (Fin:Hold->gO->wD->Prop) (b:fR) (cs:List fR) (kr:List Item) (hb:b.kind≠ .early) (ob:Nat) (hA:φ.chA=rA) (hB:φ.chB=rB) (hz:φ.z0= .agg #[iN qi 0,iN qi 0,iN qi 0]) (hval: ∀k,φ.val k=found B T k) (hh3:B.hours<=3)
  (hob:ob∉ [bb,trb,b5,b6]) (hob0:u0.heap.size<=ob)
  (hrest: ∀(H:Hold) (u:wD) (a:Act) (c:Array vL),RA a b5 b6 ob φ.Hn B.hours φ.Hn->H.mine ob->u.heap[ob]? =some (cL c 99 (0,0))->iV B T φ.Hn (List.range φ.Hn) c->MV tP true Fin (H,G (b.at a (.code rend::kr)) cs,u)):
  ∀(n:Nat) (D:List Nat),n+D.length=φ.Hn->D.Nodup->(∀h∈D,h<φ.Hn)-> ∀(H:Hold) (u:wD) (a:Act) (c:Array vL),RA a b5 b6 ob φ.Hn B.hours D.length->MK u0 V B tb tofs tcap bb trb rA rB b5 b6 H u->H.mine ob->u.heap[ob]? =some (cL c 99 (0,0))->iV B T φ.Hn D c->
   MV tP true (dU tP φ Fin n φ.Hn D) (H,G (b.at a (.code kT:: .inLoop kT:: .inBlock 2:: .code rend::kr)) cs,u)
 | 0,D,hD,hnd,hlt,H,u,a,c,hR,_,hm,hrow,hO=>by
  have hl:D.length=φ.Hn:=by omega
  refine Ym φ hHn Fin b cs kr hb ob D hl H u a hR fun a' hR'=> ?_;have hall:=(Az φ.Hn D hnd hlt).2 hl;rw[hl] at hR';exact hrest H u a' c hR' hm hrow ⟨hO.size,fun h hh=>hO.got h (hall h (List.mem_range.1 hh))⟩
 |n+1,D,hD,hnd,hlt,H,u,a,c,hR,M,hm,hrow,hO=>
  Yn φ hHn Fin b cs kr hb ob hA hB hz hval n D hD hh3 H u a c hR M hob hob0 hm hrow hO fun h hh hnD H' u' a' c' hR' M' hm' hrow' hO'=>
   Ld φ hHn Fin b cs kr hb ob hA hB hz hval hh3 hob hob0 hrest n (h::D) (by simp only[List.length_cons];omega) (List.nodup_cons.2 ⟨hnD,hnd⟩) (fun x hx=>(List.mem_cons.1 hx).elim (fun e=>e▸hh) (hlt x)) H' u' a' c' (by simpa using hR') M' hm' hrow' hO'
theorem Yo (n:Nat) (h1:1<=n) (h3:n<=3) (w:wD):(Instr.makeSlice 96 (iN qi (n:Int)) (iN qi (n:Int))).run tP w= .ok (sL (some ⟨w.heap.size,0,none⟩) n n) (w.alloc (cL (Array.replicate (n*3) (iN qi 0)) 99)):=by
 obtain rfl |rfl |rfl:n=1\/n=2\/n=3:=by omega
 all_goals kernel_rfl
theorem Yp (n:Nat) (h1:1<=n) (h3:n<=3) (w:wD):(Instr.makeSlice 96 (iN qi (n:Int)) (iN qi (n:Int))).events tP w #[]= #[]:=by
 obtain rfl |rfl |rfl:n=1\/n=2\/n=3:=by omega
 all_goals kernel_rfl
noncomputable def Le:Array Oper:=match fV with
 | .seq (.seq (.region _ ops _) _) _=>ops
 |_=> #[]
structure RH (a:Act) (bb b5 b6:Nat):Prop where
 size:a.tmps.size=50
 defers:a.defers= []
 e2:a.tmps[2]?.getD undef= pN (some ⟨bb,0,none⟩)
 e5:a.tmps[5]?.getD undef= pN (some ⟨b5,0,none⟩)
 e6:a.tmps[6]?.getD undef= pN (some ⟨b6,0,none⟩)
theorem Yq (φ:Ph) (hHn:(φ.Hn:Int)=B.hours) (Fin:Hold->gO->wD->Prop) (b:fR) (cs:List fR) (kr:List Item) (hb:b.kind≠ .early) (hA:φ.chA=rA) (hB:φ.chB=rB) (hz:φ.z0= .agg #[iN qi 0,iN qi 0,iN qi 0]) (hval: ∀k,φ.val k=found B T k) (hh:1<=B.hours/\B.hours<=3)
  (hrest: ∀(H:Hold) (u:wD) (a:Act) (ob:Nat) (c:Array vL),u0.heap.size<=ob->RA a b5 b6 ob φ.Hn B.hours φ.Hn->H.mine ob->u.heap[ob]? =some (cL c 99 (0,0))->iV B T φ.Hn (List.range φ.Hn) c->MV tP true Fin (H,G (b.at a (.code rend::kr)) cs,u))
  (H:Hold) (u:wD) (a:Act) (hR:RH a bb b5 b6) (M:MK u0 V B tb tofs tcap bb trb rA rB b5 b6 H u):
  MV tP true (dU tP φ Fin φ.Hn φ.Hn []) (H,G (b.at a (.code lW::kr)) cs,u):=by
 obtain⟨hsz,hdf,e2,e5,e6⟩:=hR;simp only[lW,fV,Tryd.f41];refine dZ (fU ?_);refine dB rfl rfl hb rfl (by rw[hsz];decide) (pN (some ⟨bb,0,none⟩)) (fun u'=> ?_) (fun u'=> ?_) fun a1 k1=> ?_
 ·simp[go_sem,e2]
 ·simp[go_sem,e2]
 replace e2:=(k1.other 2 (by decide)).trans e2;replace e5:=(k1.other 5 (by decide)).trans e5;replace e6:=(k1.other 6 (by decide)).trans e6;replace hsz:=k1.size.trans hsz;replace hdf:=k1.defers.trans hdf;have e21:=k1.same;clear k1;refine dB rfl rfl hb rfl (by rw[hsz];decide) (pN (some ⟨bb,0,none⟩)) (fun u'=> ?_) (fun u'=> ?_) fun a2 k2=> ?_
 ·simp[go_sem,e21]
 ·simp[go_sem,e21]
 replace e2:=(k2.other 2 (by decide)).trans e2;replace e5:=(k2.other 5 (by decide)).trans e5;replace e6:=(k2.other 6 (by decide)).trans e6;replace e21:=(k2.other 21 (by decide)).trans e21;replace hsz:=k2.size.trans hsz;replace hdf:=k2.defers.trans hdf;have e22:=k2.same;clear k2;clear e21;refine nJ rfl rfl hb rfl (by rw[hsz];decide) (iN qi B.hours) (fun u' ho=> ?_) (fun u' ho e he=> ?_) fun a3 k3=> ?_
 ·have hc:=aA (aY ho (M.hd bb (by simp)) M.rb) (i:=0) (by rfl);simp[go_sem,e22,hc]
 ·have hc:=aA (aY ho (M.hd bb (by simp)) M.rb) (i:=0) (by rfl);simp[go_sem,e22,hc] at he;subst he;exact .read (M.hd bb (by simp))
 replace e2:=(k3.other 2 (by decide)).trans e2;replace e5:=(k3.other 5 (by decide)).trans e5;replace e6:=(k3.other 6 (by decide)).trans e6;replace e22:=(k3.other 22 (by decide)).trans e22;replace hsz:=k3.size.trans hsz;replace hdf:=k3.defers.trans hdf;have e23:=k3.same;clear k3;clear e22;have hm1:=Yo φ.Hn (by omega) (by omega);have hm2:=Yp φ.Hn (by omega) (by omega);rw[hHn] at hm1 hm2;refine DW rfl rfl hb rfl (by rw[hsz];decide) (fun n=> sL (some ⟨n,0,none⟩) φ.Hn φ.Hn) (cL (Array.replicate (φ.Hn*3) (iN qi 0)) 99) (fun u'=> ?_) (fun u'=> ?_) fun u1 ho1 a4 k4=> ?_
 ·simp[go_sem,e23,hm1]
 ·simp[go_sem,e23,hm2]
 replace e2:=(k4.other 2 (by decide)).trans e2;replace e5:=(k4.other 5 (by decide)).trans e5;replace e6:=(k4.other 6 (by decide)).trans e6;replace e23:=(k4.other 23 (by decide)).trans e23;replace hsz:=k4.size.trans hsz;replace hdf:=k4.defers.trans hdf;have e24:=k4.same;clear k4;clear e23;have M1:=(M.off ho1).alloc (cL (Array.replicate (φ.Hn*3) (iN qi 0)) 99);have hm:(H.more u1 (u1.alloc (cL (Array.replicate (φ.Hn*3) (iN qi 0)) 99))).mine u1.heap.size:=Or.inr ⟨Nat.le_refl _,by simp⟩;have hrow:(u1.alloc (cL (Array.replicate (φ.Hn*3) (iN qi 0)) 99)).heap[u1.heap.size]? =some (cL (Array.replicate (φ.Hn*3) (iN qi 0)) 99 (0,0)):=lU;have hob:u1.heap.size∉ [bb,trb,b5,b6]:=fun hmem=>by
  have M0:=M.off ho1;have q1:=(aS.1 M0.rb).1;have q2:=(aS.1 M0.rt).1;have q3:=(aS.1 M0.r5).1;have q4:=(aS.1 M0.r6).1;simp only[List.mem_cons,List.not_mem_nil,or_false] at hmem;omega
 have hob0:u0.heap.size<=u1.heap.size:=(M.off ho1).sz;generalize u1.heap.size=ob at hob hob0 hm hrow e24;generalize H.more u1 (u1.alloc (cL (Array.replicate (φ.Hn*3) (iN qi 0)) 99))=H1 at M1 hm ⊢;generalize u1.alloc (cL (Array.replicate (φ.Hn*3) (iN qi 0)) 99)=u2 at M1 hrow ⊢;clear hm1 hm2 M ho1;refine dB rfl rfl hb rfl (by rw[hsz];decide) (sL (some ⟨ob,0,none⟩) φ.Hn φ.Hn) (fun u'=> ?_) (fun u'=> ?_) fun a5 k5=> ?_
 ·simp[go_sem,e24]
 ·simp[go_sem]
 replace e2:=(k5.other 2 (by decide)).trans e2;replace e5:=(k5.other 5 (by decide)).trans e5;replace e6:=(k5.other 6 (by decide)).trans e6;replace e24:=(k5.other 24 (by decide)).trans e24;replace hsz:=k5.size.trans hsz;replace hdf:=k5.defers.trans hdf;have e8:=k5.same;clear k5;clear e24;refine fG (dZ (dZ (fU ?_)));have M:=M1;clear M1;refine dB rfl rfl hb rfl (by rw[hsz];decide) (pN (some ⟨bb,0,none⟩)) (fun u'=> ?_) (fun u'=> ?_) fun a6 k6=> ?_
 ·simp[go_sem,e2]
 ·simp[go_sem,e2]
 replace e2:=(k6.other 2 (by decide)).trans e2;replace e5:=(k6.other 5 (by decide)).trans e5;replace e6:=(k6.other 6 (by decide)).trans e6;replace e8:=(k6.other 8 (by decide)).trans e8;replace hsz:=k6.size.trans hsz;replace hdf:=k6.defers.trans hdf;have e25:=k6.same;clear k6;refine dB rfl rfl hb rfl (by rw[hsz];decide) (pN (some ⟨bb,0,none⟩)) (fun u'=> ?_) (fun u'=> ?_) fun a7 k7=> ?_
 ·simp[go_sem,e25]
 ·simp[go_sem,e25]
 replace e2:=(k7.other 2 (by decide)).trans e2;replace e5:=(k7.other 5 (by decide)).trans e5;replace e6:=(k7.other 6 (by decide)).trans e6;replace e8:=(k7.other 8 (by decide)).trans e8;replace e25:=(k7.other 25 (by decide)).trans e25;replace hsz:=k7.size.trans hsz;replace hdf:=k7.defers.trans hdf;have e26:=k7.same;clear k7;clear e25;refine nJ rfl rfl hb rfl (by rw[hsz];decide) (iN qi B.hours) (fun u' ho=> ?_) (fun u' ho e he=> ?_) fun a8 k8=> ?_
 ·have hc:=aA (aY ho (M.hd bb (by simp)) M.rb) (i:=0) (by rfl);simp[go_sem,e26,hc]
 ·have hc:=aA (aY ho (M.hd bb (by simp)) M.rb) (i:=0) (by rfl);simp[go_sem,e26,hc] at he;subst he;exact .read (M.hd bb (by simp))
 replace e2:=(k8.other 2 (by decide)).trans e2;replace e5:=(k8.other 5 (by decide)).trans e5;replace e6:=(k8.other 6 (by decide)).trans e6;replace e8:=(k8.other 8 (by decide)).trans e8;replace e26:=(k8.other 26 (by decide)).trans e26;replace hsz:=k8.size.trans hsz;replace hdf:=k8.defers.trans hdf;have e27:=k8.same;clear k8;clear e26;clear e2;refine dB rfl rfl hb rfl (by rw[hsz];decide) (iN qi 0) (fun u'=> ?_) (fun u'=> ?_) fun a9 k9=> ?_
 ·simp[go_sem]
 ·simp[go_sem]
 replace e5:=(k9.other 5 (by decide)).trans e5;replace e6:=(k9.other 6 (by decide)).trans e6;replace e8:=(k9.other 8 (by decide)).trans e8;replace e27:=(k9.other 27 (by decide)).trans e27;replace hsz:=k9.size.trans hsz;replace hdf:=k9.defers.trans hdf;have e28:=k9.same;clear k9;refine fG (qA (Kr ?_));refine Ld φ hHn Fin b cs kr hb ob hA hB hz hval hh.2 hob hob0 (fun H u a c hR hm hrow hO=>hrest H u a ob c hob0 hR hm hrow hO) φ.Hn [] (by simp) List.nodup_nil (by simp) H1 u2 _ _ ⟨hsz,hdf,e5,e6,e8,e27,e28⟩ M hm hrow ⟨by simp,by simp⟩
theorem Yr (φ:Ph) (hHn:(φ.Hn:Int)=B.hours) (Fin:Hold->gO->wD->Prop) (b:fR) (cs:List fR) (kr:List Item) (hb:b.kind≠ .early) (hA:φ.chA=rA) (hB:φ.chB=rB) (hz:φ.z0= .agg #[iN qi 0,iN qi 0,iN qi 0]) (hval: ∀k,φ.val k=found B T k) (hisA: ∀k,φ.isA k=decide (0<=B.lackIn T true k)) (L:fB u0 V B tb tofs T)
  (hrest: ∀(H:Hold) (u:wD) (a:Act) (ob:Nat) (c:Array vL),u0.heap.size<=ob->RA a b5 b6 ob φ.Hn B.hours φ.Hn->H.mine ob->u.heap[ob]? =some (cL c 99 (0,0))->iV B T φ.Hn (List.range φ.Hn) c->MV tP true Fin (H,G (b.at a (.code rend::kr)) cs,u))
  (H:Hold) (u:wD) (x4 t11 t12 p0 p1:vL) (M:MK u0 V B tb tofs tcap bb trb rA rB b5 b6 H u):
  MV tP true (dU tP φ Fin (φ.Hn+φ.Hn) 0 []) (H,G (b.at (LA (pN (some ⟨bb,0,none⟩)) (pN (some ⟨trb,0,none⟩)) x4 (pN (some ⟨b5,0,none⟩)) (pN (some ⟨b6,0,none⟩)) t11 t12 p0 p1) (.code fV::kr)) cs,u):=by
 have hl:fV= .seq (.seq (.region 2 Le false) (.block 0 (.loop hbody))) lW:=by rfl
 rw[hl];refine dZ (dZ (fU ?_));simp only[Le,fV,Tryd.f41];refine kN rfl rfl hb (pN (some ⟨bb,0,none⟩)) (fun u'=> ?_) (fun u'=> ?_) ?_
 ·simp[go_sem,LA]
 ·simp[go_sem,LA]
 refine kN rfl rfl hb (pN (some ⟨bb,0,none⟩)) (fun u'=> ?_) (fun u'=> ?_) ?_
 ·simp[go_sem,LA]
 ·simp[go_sem,LA]
 refine DV rfl rfl hb (iN qi B.hours) (fun u' ho=> ?_) (fun u' ho e he=> ?_) ?_
 ·have hc:=aA (aY ho (M.hd bb (by simp)) M.rb) (i:=0) (by rfl);simp[go_sem,LA,hc]
 ·have hc:=aA (aY ho (M.hd bb (by simp)) M.rb) (i:=0) (by rfl);simp[go_sem,LA,hc] at he;subst he;exact .read (M.hd bb (by simp))
 refine kN rfl rfl hb (iN qi 0) (fun u'=> ?_) (fun u'=> ?_) ?_
 ·simp[go_sem]
 ·simp[go_sem]
 refine fG (qA (Kr ?_));refine Yl φ hA hB hHn hval hisA L Fin b cs (.code lW::kr) hb x4 t11 t12 p0 p1 (pN (some ⟨bb,0,none⟩)) (pN (some ⟨bb,0,none⟩)) (fun H u t7 t16 t17 t18 t19 t20 M=> ?_) φ.Hn 0 (by omega) H u undef undef undef undef undef M;exact Yq φ hHn Fin b cs kr hb hA hB hz hval L.fine.hours hrest H u _ ⟨rfl,rfl,rfl,rfl,rfl⟩ M
end
end Go.Proofs.YtfiiffnbggnkfaaDoor
namespace Go.Tp
open Go.Conc Go.ConcN Go.RowKit
theorem Yt {P:Program} {m m' m'':Machine} {t t' t'':Trace} {N K:Nat} (h:runNT P N m t=(.next m',t')) (hk:runNT P K m' t'=(.next m'',t'')):runNT P (N+K) m t=(.next m'',t''):=by
 rw[runNT_add,h];exact hk
def LBn (n0:Nat) (P:Program) (Stop:gO->wD->Prop) (g:gO) (w:wD):Prop:=
 ∀(T:Nat->Question->Nat) (j:aW),j.ok-> ∀(gs:Array gO) (d:Nat) (sl:Option (Nat×Nat)) (t:Trace) (q:Nat->Nat),gs[0]? =some g->Leavers P t gs q->Past pX w.heap.size t->
  ∃(N:Nat) (gs':Array gO) (g':gO) (w':wD) (d':Nat) (j':aW) (sl':Option (Nat×Nat)) (t':Trace) (q':Nat->Nat),
   (j'.ok/\n0<=w'.heap.size/\ ∀n,n<n0->j' n=j n)/\runNT P N (crowd gs (w.tp T d j) sl) t=(.next (crowd gs' (w'.tp T d' j') sl'),t')/\gs'[0]? =some g'/\Stop g' w'/\Leavers P t' gs' q'/\Past pX w'.heap.size t'
def LB (P:Program) (Stop:gO->wD->Prop) (g:gO) (w:wD):Prop:=LBn w.heap.size P Stop g w
section
variable {P:Program} {Stop Stop':gO->wD->Prop} {g:gO} {w:wD} {n0:Nat}
theorem Lh (h:Stop g w):LB P Stop g w:=
 fun _ j hj gs d sl t q h0 hL hP=>⟨0,gs,g,w,d,j,sl,t,q,⟨hj,Nat.le_refl _,fun _ _=>rfl⟩,rfl,h0,h,hL,hP⟩
theorem Lj {n1:Nat} (h:LBn n1 P Stop g w) (hn:n0<=n1):LBn n0 P Stop g w:=by
 intro T j hj gs d sl t q h0 hL hP;obtain⟨N,gs',g',w',d',j',sl',t',q',⟨hj',hz,hJ⟩,r⟩:=h T j hj gs d sl t q h0 hL hP;exact⟨N,gs',g',w',d',j',sl',t',q',⟨hj',Nat.le_trans hn hz,fun n hlt=>hJ n (nL hlt hn)⟩,r⟩
theorem Ef (h:LBn n0 P Stop g w) (k: ∀g' w',n0<=w'.heap.size->Stop g' w'->LBn n0 P Stop' g' w'):LBn n0 P Stop' g w:=by
 intro T j hj gs d sl t q h0 hL hP;obtain⟨N,gs',g',w',d',j',sl',t',q',⟨hj',hz,hJ⟩,hr,h0',hs,hL',hP'⟩:=h T j hj gs d sl t q h0 hL hP;obtain⟨N2,gs2,g2,w2,d2,j2,sl2,t2,q2,⟨hj2,hz2,hJ2⟩,hr2,h02,hs2,hL2,hP2⟩:=k g' w' hz hs T j' hj' gs' d' sl' t' q' h0' hL' hP';exact⟨N+N2,gs2,g2,w2,d2,j2,sl2,t2,q2,⟨hj2,hz2,fun n hn=>(hJ2 n hn).trans (hJ n hn)⟩,Yt hr hr2,h02,hs2,hL2,hP2⟩
theorem qI (h:LB P Stop g w) (k: ∀g' w',Stop g' w'->LB P Stop' g' w'):LB P Stop' g w:=Ef h fun g' w' hz hs=>Lj (k g' w' hs) hz
theorem Eh (h:LB P Stop g w) (k: ∀g' w',Stop g' w'->Stop' g' w'):LB P Stop' g w:=qI h fun g' w' hs=>Lh (k g' w' hs)
theorem nM (h:Run P Stop g w):LB P Stop g w:=by
 intro T j hj gs d sl t q h0 hL hP;obtain⟨N,gs',g',w',d',sl',t',q',hr,_,h0',hs,hL',hP',hz⟩:=UH hj h gs d sl t q h0 hL hP;exact⟨N,gs',g',w',d',j,sl',t',q',⟨hj,hz,fun _ _=>rfl⟩,hr,h0',hs,hL',hP'⟩
structure Kept (n:Nat) (w w':wD):Prop where
 os:w'.os=w.os
 output:w'.output=w.output
 size:w.heap.size<=w'.heap.size
 block: ∀k,k<n->w'.heap[k]? =w.heap[k]?
theorem Kept.refl (n:Nat) (w:wD):Kept n w w:=⟨rfl,rfl,Nat.le_refl _,fun _ _=>rfl⟩
theorem Kept.trans {n:Nat} {a b c:wD} (h:Kept n a b) (k:Kept n b c):Kept n a c:=
 ⟨k.os.trans h.os,k.output.trans h.output,Nat.le_trans h.size k.size,fun i hi=>(k.block i hi).trans (h.block i hi)⟩
theorem Kept.mono {n n':Nat} {w w':wD} (h:Kept n w w') (hn:n'<=n):Kept n' w w':=⟨h.os,h.output,h.size,fun k hk=>h.block k (nL hk hn)⟩
theorem Kept.of_below {n:Nat} {w w':wD} (h:Below n w w'):Kept n w w':=⟨h.os,h.output,h.size,h.block⟩
theorem Kept.cell {n:Nat} {w w':wD} (h:Kept n w w') {p:Addr} (hp:p.block<n):w'.cell? p=w.cell? p:=World.cell?_of_block (w:=w) (h.block p.block hp)
theorem Kept.frozen {n:Nat} {w w':wD} (h:Kept n w w') {p:Addr} (hp:p.block<n):w'.frozen? p=w.frozen? p:=World.frozen?_of_block (w:=w) (h.block p.block hp)
theorem oG (w:wD) (τ:Nat->Question->Nat) (d:Nat):(w.tp τ d noJ).heap=w.heap:=by unfold World.tp;rw[vO]
theorem Kept.tp {n:Nat} {w w':wD} (τ τ':Nat->Question->Nat) (d d':Nat):Kept n (w.tp τ d noJ) (w'.tp τ' d' noJ)↔Kept n w w':=by
 constructor
 ·rintro⟨h1,h2,h3,h4⟩;simp only[oG,CG,CJ] at h1 h2 h3 h4;exact⟨h1,h2,h3,h4⟩
 ·rintro⟨h1,h2,h3,h4⟩;refine⟨?_, ?_, ?_, ?_⟩<;>simp only[oG,CG,CJ]
  ·exact h1
  ·exact h2
  ·exact h3
  ·exact h4
def iK (P:Program) (f:FuncId) (args:Array vL) (w:wD) (R:vL->wD->Prop):Prop:=
 ∀(c:fR) (cs:List fR),aP c->(∀x∈cs,aP x)->Started w->
  LB P (gQ fun g w'=> ∃v,g={frame:=c.finish v,callers:=cs,status:= .running,dying:=none}/\R v w') {frame:=Frame.enter P f args .normal,callers:=c::cs,status:= .running,dying:=none} w
theorem Ei (G:Good P) {f:FuncId} {args:Array vL} {R:vL->wD->Prop} (hR: ∀v w τ d,R v (w.tp τ d noJ)->R v w) (h: ∀τ,Calls P f args (w.tp τ 0 noJ) fun e w'=> ∃v,e= .returned v/\R v w'):iK P f args w R:=
 fun _ _ hc hcs hs=>nM (UF G hc hcs hs hR h)
theorem iK.mono {f:FuncId} {args:Array vL} {R R':vL->wD->Prop} (h:iK P f args w R) (k: ∀v w',R v w'->R' v w'):iK P f args w R':=
 fun c cs hc hcs hs=>Eh (h c cs hc hcs hs) fun _ _ ⟨⟨v,e,r⟩,hf⟩=>⟨⟨v,e,k v _ r⟩,hf⟩
end
def oH:Obj->Bool
 | .loop _ | .deferred _ | .chan .. =>true
 |_=>false
theorem Yu (o:Obj):oH o=true↔o.junk:=by cases o<;>simp[oH,Obj.junk]
def qJ (w:wD) (n:Nat) (o:Obj):Obj:=if h:n<w.heap.size then w.heap[n] else if oH o then fin else o
def mend (w u:wD):wD:={u with heap:=u.heap.mapIdx (qJ w)}
def lX (w u:wD) (j:aW):aW:=fun n=>if n<w.heap.size then j n else match u.heap[n]? with
 |some o=>if oH o then some o else none
 |none=>none
theorem Ll {w u:wD} {j:aW} (hj:j.ok):(lX w u j).ok:=by
 intro n o h;unfold lX at h
 split at h
 ·exact hj n o h
 ·split at h
  ·split at h
   ·rename_i hb;obtain rfl:=Option.some.inj h;exact(Yu _).1 hb
   ·cases h
  ·cases h
theorem AZ (w u:wD) (n:Nat):(mend w u).heap[n]? =(u.heap[n]?).map (qJ w n):=by simp[mend]
theorem Ba (w u:wD):(mend w u).heap.size=u.heap.size:=by simp[mend]
theorem Lm {w u:wD} (hz:w.heap.size<=u.heap.size) {n:Nat} (h:n<w.heap.size):(mend w u).heap[n]? =w.heap[n]? :=by
 rw[AZ,aG (nL h hz),Option.map_some,aG h];simp[qJ,h]
theorem Lp {w u:wD} {T:Nat->Question->Nat} {d:Nat} {j:aW} (hz:w.heap.size<=u.heap.size) (hk: ∀b,b<w.heap.size->u.heap[b]? =(w.tp T d j).heap[b]?) (hT:u.tape=T):
  (mend w u).tp T u.drawn (lX w u j)=u:=by
 obtain⟨heap,tape,drawn,os,output⟩:=u;simp only at hT;subst hT;unfold World.tp
 congr 1
 apply Array.ext_getElem?;intro n;rw[ni];have hm:=AZ w {heap:=heap,tape:=tape,drawn:=drawn,os:=os,output:=output} n;by_cases hn:n<w.heap.size
 ·rw[Lm hz hn];rw[hk n hn,dX];rw[aG hn];simp[fQ,lX,hn]
 ·rw[hm];simp only
  cases h:heap[n]? with
  |none=>rfl
  |some o=>
   simp only[Option.map_some,qJ,hn,dif_neg,not_false_eq_true];by_cases hb:oH o=true
   ·simp[hb,fQ,isFin,fin,lX,hn,h]
   ·simp only[hb];simp[fQ,lX,hn,h,hb]
theorem Lr {w u:wD} (hs:Started w):Started (mend w u):=by
 intro n o h;rw[AZ] at h
 cases e:u.heap[n]? with
 |none=>rw[e] at h;cases h
 |some x=>
  rw[e,Option.map_some,Option.some.injEq] at h;unfold qJ at h
  split at h
  ·rename_i hn;exact hs n o (by rw[aG hn,h])
  ·split at h
   ·subst h;exact trivial
   ·rename_i hb;subst h
    cases x<;>simp_all [oH,Obj.started]
theorem Ls {w u:wD} {n:Nat} {c:Array vL} {t:TypeId} {z:Nat×Nat} (hn:w.heap.size<=n) (h:u.heap[n]? =some (cL c t z)):(mend w u).heap[n]? =some (cL c t z):=by
 rw[AZ,h];simp[qJ,Nat.not_lt.2 hn,oH]
end Go.Tp
