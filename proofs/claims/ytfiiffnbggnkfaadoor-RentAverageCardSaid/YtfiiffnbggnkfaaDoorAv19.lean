/- A part of the proof of a law; no conditions of its own. -/
import Derived.Test.YtfiiffnbggnkfaaDoorAv16
import Derived.RangeFuncNested
import Derived.RangeFuncBound
import Derived.RangeFuncKeeps
import Derived.RangeFuncRecord
import Derived.Shelf.RegionOpen
import Derived.OwnWalkIn
import Derived.TacticsInMore
import Derived.LoopNIn
import Derived.LoopIn
import Derived.Deep.AppendLies
import Derived.Laws.EntriesVeiled
open Go.RowKit renaming Below→bX
open Go renaming Calls→cF, Value→vL, World→wD
open Go.IntKind renaming i64→qi
open Go.Value renaming int→iN, slice→sL, pointer→pN
open Go.Ending renaming returned→rT
open Go.Obj renaming cells→cL
set_option maxRecDepth 100000
open Nat renaming le_refl→nR
open Go.Lib renaming hid→lH
open Go.RowKit.Below renaming refl→bR
open Go.Proofs.Tryd renaming prog→tP
open Array renaming getElem?_eq_some_iff→aS
open List renaming getElem?_eq_some_iff→lS
open Go.World renaming block_lt_of_cell?→wBk
set_option maxHeartbeats 4000000
namespace Go.Proofs.YtfiiffnbggnkfaaDoor
open Go.RowKit Go.Rent Go.Tp Go.Conc
def iY (may:Int->Bool) (i:Nat):Nat:=if may (i:Int) then 5 else 0
def moreL (may:Int->Bool):Nat->List Int->List (List Int)
 | 0,t=> [t]
 |m+1,t=>(List.range (iY may t.length+1)).flatMap fun(n:Nat)=>moreL may m (t++ [(n:Int)])
def ku (B:Bk) (t:List Int):List Int:=(List.range B.spokes).map fun j=>aZ B (trk t) j
def jC (B:Bk) (t:List Int):List Int:=ku B t++t.drop B.spokes
def iy (B:Bk) (t:List Int):List Int×Int:=(jC B t,fZ B (trk (jC B t)) (jC B t).length)
def oP (B:Bk) (may:Int->Bool):List (List Int×Int):=(moreL may (B.links.length-B.spokes) (List.replicate B.spokes 0)).map (iy B)
def least1 (acc:Option (List Int×Int)) (x:List Int×Int):Option (List Int×Int):=match acc with
 |none=>some x
 |some b=>if qR x b<0 then some x else some b
def iC (l:List (List Int×Int)):Option (List Int×Int):=l.foldl least1 none
def aC (B:Bk) (may:Int->Bool):List Int×Int:=(iC (oP B may)).getD ([],0)
theorem MO (l:List (List Int×Int)) (x:List Int×Int):iC (l++ [x])=least1 (iC l) x:=by simp[iC,List.foldl_append]
theorem ZH: ∀(l:List (List Int×Int)),l≠ []-> ∃b,iC l=some b:=by
 intro l hl;obtain⟨l',x,rfl⟩: ∃l' x,l=l'++ [x]:=⟨l.dropLast,l.getLast hl,(List.dropLast_concat_getLast hl).symm⟩;rw[MO]
 cases iC l' with
 |none=>exact⟨x,rfl⟩
 |some b=>unfold least1;dsimp only;split<;>exact⟨_,rfl⟩
theorem MP (may:Int->Bool): ∀(m:Nat) (t:List Int),moreL may m t≠ []
 | 0,t=>by simp[moreL]
 |m+1,t=>by
  unfold moreL;rw[List.range_succ_eq_map,List.flatMap_cons];intro h;exact MP may m _ (List.append_eq_nil_iff.1 h).1
def upTo (B:Bk) (may:Int->Bool) (m:Nat) (t:List Int) (k:Nat):List (List Int×Int):=((List.range k).flatMap fun(n:Nat)=>moreL may m (t++ [(n:Int)])).map (iy B)
theorem ZI (B:Bk) (may:Int->Bool) (m:Nat) (t:List Int):upTo B may m t 0= []:=rfl
theorem MQ (B:Bk) (may:Int->Bool) (m:Nat) (t:List Int) (k:Nat):upTo B may m t (k+1)=upTo B may m t k++(moreL may m (t++ [(k:Int)])).map (iy B):=by
 unfold upTo;rw[List.range_succ,List.flatMap_append,List.flatMap_singleton,List.map_append]
theorem MR (B:Bk) (may:Int->Bool) (m:Nat) (t:List Int):upTo B may m t (iY may t.length+1)=(moreL may (m+1) t).map (iy B):=rfl
theorem EM (B:Bk) (t:List Int):(ku B t).length=B.spokes:=by simp[ku]
theorem MS {B:Bk} {t:List Int} (h:t.length=B.links.length) (hs:B.spokes<=B.links.length):(jC B t).length=B.links.length:=by
 unfold jC;rw[List.length_append,EM,List.length_drop,h];omega
theorem ZJ {B:Bk} (hB:B.Fine) {T:Nat->Int} (hT: ∀k,0<=T k) (j:Nat):0<=aZ B T j/\aZ B T j<=30:=Eu hB hT j _
theorem aob {xs:List Int} {lo hi:Int} (h: ∀x∈xs,lo<=x/\x<=hi) (h0:lo<=0/\0<=hi) (k:Nat):lo<=trk xs k/\trk xs k<=hi:=by
 unfold trk;rw[List.getD_eq_getElem?_getD]
 cases e:xs[k]? with
 |none=>exact h0
 |some x=>exact h x (List.mem_of_getElem? e)
theorem MW {B:Bk} (hB:B.Fine) {t:List Int} (ht: ∀x∈t,0<=x/\x<=5): ∀k,0<=trk (jC B t) k/\trk (jC B t) k<=30:=by
 refine aob (fun x hx=> ?_) (by decide);unfold jC ku at hx
 rcases List.mem_append.1 hx with h |h
 ·obtain⟨j,_,rfl⟩:=List.mem_map.1 h;exact ZJ hB (fun k=>(aob ht (by decide) k).1) j
 ·have:=ht x (List.mem_of_mem_drop h);omega
theorem ZK {t:List Int} (ht: ∀x∈t,0<=x/\x<=5):dN t=false:=by
 unfold dN;rw[List.any_eq_false];intro x hx;have:=ht x hx;simp[btw];omega
theorem ZL {B:Bk} (hB:Good B) {t:List Int} (ht: ∀x∈t,0<=x/\x<=5) (hl:t.length=B.links.length):0<=(iy B t).2/\(iy B t).2<=17820:=by
 have h1:=ED hB (MW hB.fine ht) (jC B t).length;have h2:=MS hl hB.fine.links.1;have h3:=hB.fine.links.2;unfold iy;dsimp only;omega
structure Mk (n0 n1:Nat) (mb:Option Nat) (W W':wD):Prop where
 os:W'.os=W.os
 tape:W'.tape=W.tape
 output:W'.output=W.output
 size:W.heap.size<=W'.heap.size
 block: ∀k,k<W.heap.size->((k<n0/\some k≠mb)\/n1<=k)->W'.heap[k]? =W.heap[k]?
section
variable {n0 n1:Nat} {mb:Option Nat} {W W' W'':wD}
theorem Mk.refl (n0 n1:Nat) (mb:Option Nat) (W:wD):Mk n0 n1 mb W W:=⟨rfl,rfl,rfl,nR _,fun _ _ _=>rfl⟩
theorem Mk.trans (h:Mk n0 n1 mb W W') (k:Mk n0 n1 mb W' W''):Mk n0 n1 mb W W'':=
 ⟨k.os.trans h.os,k.tape.trans h.tape,k.output.trans h.output,Nat.le_trans h.size k.size,fun i hi hc=>(k.block i (Nat.lt_of_lt_of_le hi h.size) hc).trans (h.block i hi hc)⟩
theorem Mk.of_grown {m:Nat} (hg:W.grownBy W' (some m)) (hm:m<n0) (h01:n0<=n1):Mk n0 n1 (some m) W W':=
 ⟨hg.os,hg.tape,hg.output,hg.size,fun k hk hc=>hg.block k hk (hc.elim (fun h=>h.2) fun h e=>by cases e;omega)⟩
theorem Mk.of_below (hb:bX W.heap.size W W'):Mk n0 n1 mb W W':=⟨hb.os,hb.tape,hb.output,hb.size,fun k hk _=>hb.block k hk⟩
theorem Mk.some_of {m:Nat} (h:Mk n0 n1 none W W'):Mk n0 n1 (some m) W W':=⟨h.os,h.tape,h.output,h.size,fun k hk hc=>h.block k hk (hc.elim (fun h=> .inl ⟨h.1,fun e=>by cases e⟩) .inr)⟩
theorem aO.not_cell {m n b o:Nat} {C:Int->Int->Int} {v:vL} (hm:aO W m n C) (hc:W.cell? ⟨b,o,none⟩=some v):b≠m:=by
 rintro rfl;obtain⟨D,⟨es,cl,h1,_⟩,_⟩:=hm;simp[World.cell?,h1] at hc
theorem Mk.cell {m n b o:Nat} {C:Int->Int->Int} {v:vL} (h:Mk n0 n1 (some m) W W') (hm:aO W m n C) (hb:b<n0\/n1<=b) (hc:W.cell? ⟨b,o,none⟩=some v):W'.cell? ⟨b,o,none⟩=some v:=by
 have hne:=hm.not_cell hc;rw[World.cell?_of_block (w:=W) (a:=⟨b,o,none⟩) (h.block b (wBk W _ hc) (hb.elim (fun hb=> .inl ⟨hb,fun e=>by cases e;exact hne rfl⟩) .inr))];exact hc
theorem aO.mk {m n:Nat} {C:Int->Int->Int} (hm:aO W m n C) (h:Mk n0 n1 none W W') (hn:m<n0):aO W' m n C:=by
 obtain⟨D,⟨es,cl,h1,h3⟩,h2⟩:=hm;exact⟨D,⟨es,cl,by rw[h.block m (aS.1 h1).1 (.inl ⟨hn,by intro e;cases e⟩)];exact h1,h3⟩,h2⟩
theorem bC.mk {w0:wD} {m n:Nat} {C:Int->Int->Int} (hk:bC w0 W) (h:Mk w0.heap.size n1 (some m) W W') (hm:aO W m n C):bC w0 W':=fun b o v hc=>
 h.cell hm (.inl (wBk w0 _ hc)) (hk b o v hc)
theorem SlI.mk {m n:Nat} {C:Int->Int->Int} {xa:Option Addr} {xs:List Int} (hx:SlI W xa xs) (h:Mk n0 n1 (some m) W W') (hm:aO W m n C) (hb: ∀a,xa=some a->n1<=a.block):SlI W' xa xs:=fun i x hi=>by
 obtain⟨b,o,e,h0⟩:=hx i x hi;exact⟨b,o,e,h.cell hm (.inr (hb _ e)) h0⟩
end
theorem SlB.cells {w w':wD} {sa:Option Addr} {xs:List (Int×Int)} (h:SlB w sa xs) (k:bC w w'):SlB w' sa xs:=fun i x hi=>by
 obtain⟨b,o,e,h0,h1⟩:=h i x hi;exact⟨b,o,e,k _ _ _ h0,k _ _ _ h1⟩
theorem SlS.cells {w w':wD} {sa:Option Addr} {xs:List ByteArray} (h:SlS w sa xs) (k:bC w w'):SlS w' sa xs:=fun i x hi=>by
 obtain⟨b,o,e,h0⟩:=h i x hi;exact⟨b,o,e,k _ _ _ h0⟩
theorem jv.cells {w w':wD} {la:Option Addr} {ls:List Pr} (h:jv w la ls) (k:bC w w'):jv w' la ls:=fun i L hi=>by
 obtain⟨b,o,sa,sc,h1,h2,h3,h4,h5,h6⟩:=h i L hi;exact⟨b,o,sa,sc,h1,k _ _ _ h2,k _ _ _ h3,k _ _ _ h4,h5.cells k,h6⟩
theorem aB.cells {w w':wD} {V:BkV} {B:Bk} (h:aB w V B) (k:bC w w'):aB w' V B:=⟨h.towns.cells k,h.links.cells k,h.pairs.cells k,h.nt,h.nl,h.np,h.tc⟩
theorem nO {w:wD} {n:Nat} {v:vL} {xs:List Int} (h:w.ownsRow n 3 1 v xs.length (ints xs)) (h1:1<=xs.length):
  ∃b cap,v= sL (some ⟨b,0,none⟩) xs.length cap/\n<=b/\b<w.heap.size/\SlI w (some ⟨b,0,none⟩) xs/\xs.length<=cap/\cap<=maxLen:=by
 obtain⟨_,⟨_,h0⟩ |⟨b,cap,cur,rfl,hb,hrow,hc1,hc2,hs,ht⟩⟩:=h
 ·omega
 ·refine⟨b,cap,rfl,hb,(aS.1 hrow).1,fun i x hi=>⟨b,0,rfl, ?_⟩,hc1,hc2⟩;have hil:=(lS.1 hi).1;have e:cur[i]? =some (iN qi x):=by
   have e2:(ints xs)[i]? =some (iN qi x):=by unfold ints;rw[List.getElem?_map,hi];rfl
   rw[<-ht,List.getElem?_take,if_pos (by omega)] at e2;simpa using e2
  simp[World.cell?,hrow,e]
structure nP (w:wD) (V:BkV) (B:Bk) (mv:vL) (bb bm bt mb:Nat):Prop where
 b0:w.cell? ⟨bb,0,none⟩=some (iN qi B.hours)
 b1:w.cell? ⟨bb,1,none⟩=some (sL V.ta B.towns.length V.tc)
 b2:w.cell? ⟨bb,2,none⟩=some (sL V.la B.links.length V.lc)
 b3:w.cell? ⟨bb,3,none⟩=some (sL V.pa B.pairs.length V.pc)
 m0:w.cell? ⟨bm,0,none⟩=some mv
 t0:w.cell? ⟨bt,0,none⟩=some (iN qi B.hours)
 t1:w.cell? ⟨bt,1,none⟩=some (sL V.ta B.towns.length V.tc)
 t2:w.cell? ⟨bt,2,none⟩=some (sL V.la B.links.length V.lc)
 t3:w.cell? ⟨bt,3,none⟩=some (sL V.pa B.pairs.length V.pc)
 t4:w.cell? ⟨bt,4,none⟩=some (.map (some mb))
theorem nP.of {w w':wD} {V:BkV} {B:Bk} {mv:vL} {bb bm bt mb:Nat} (h:nP w V B mv bb bm bt mb) (k:bC w w'):nP w' V B mv bb bm bt mb:=
 ⟨k _ _ _ h.b0,k _ _ _ h.b1,k _ _ _ h.b2,k _ _ _ h.b3,k _ _ _ h.m0,k _ _ _ h.t0,k _ _ _ h.t1,k _ _ _ h.t2,k _ _ _ h.t3,k _ _ _ h.t4⟩
theorem ZM (V:BkV) (B:Bk) (fm:FuncId) (pre post:Array vL) (w:wD):
  cF tP 64 #[V.val B,.func (.func fm) pre post] w fun e w'=> ∃bb bm bt mb,e= rT (.func (.func 84) #[] #[pN (some ⟨bb,0,none⟩),pN (some ⟨bt,0,none⟩),pN (some ⟨bm,0,none⟩)])/\
   nP w' V B (.func (.func fm) pre post) bb bm bt mb/\aO w' mb 0 (bH B)/\w.heap.size<=mb/\bX w.heap.size w w':=by
 obtain⟨ta,la,pa,tc,lc,pc⟩:=V;go_enter Tryd.func64,Tryd.ntmps64
 go_wp2_with fail
 have hb0: ∀o1 o2:Obj,bX w.heap.size w ((w.alloc o1).alloc o2):=fun o1 o2=>((bR _ _).alloc (nR _) _).alloc (by simp) _;refine(c81 ⟨ta,la,pa,tc,lc,pc⟩ B _ (bH B)).mono ?_;rintro e w2 ⟨mb,rfl,hmb,hbill,hb3⟩;have Hb:=lH ((hb0 _ _).trans (hb3.mono (hb0 _ _).size));have k0:w2.cell? ⟨w.heap.size,0,none⟩=some (iN qi B.hours):=by rw[(ak hb3).1 _ _ (by simp;omega)];go_simp
 have k1:w2.cell? ⟨w.heap.size,1,none⟩=some (sL ta B.towns.length tc):=by rw[(ak hb3).1 _ _ (by simp;omega)];go_simp
 have k2:w2.cell? ⟨w.heap.size,2,none⟩=some (sL la B.links.length lc):=by rw[(ak hb3).1 _ _ (by simp;omega)];go_simp
 have k3:w2.cell? ⟨w.heap.size,3,none⟩=some (sL pa B.pairs.length pc):=by rw[(ak hb3).1 _ _ (by simp;omega)];go_simp
 have k4:w2.cell? ⟨w.heap.size+1,0,none⟩=some (.func (.func fm) pre post):=by rw[(ak hb3).1 _ _ (by simp)];go_simp
 have HBill:=lH hbill;have Hmb:Hid (w.heap.size<=mb/\mb<w2.heap.size):=lH ⟨by simp at hmb;omega,hbill.lt⟩;clear hb0 hb3 hbill hmb;go_wp2;go_ret;refine⟨_,_,_,mb,rfl,⟨jL k0,jL k1,jL k2,jL k3,jL k4,by go_simp,by go_simp,by go_simp,by go_simp,by go_simp⟩,HBill.out.below ((bR _ _).alloc (nR _) _) Hmb.out.2,Hmb.out.1,Hb.out.trans ((bR _ _).alloc Hb.out.size _)⟩
theorem below_grown {a w w':wD} {row:Option Nat} (hb:bX a.heap.size a w) (hg:w.grownBy w' row):a.grownBy w' row:=⟨hg.os.trans hb.os,hg.tape.trans hb.tape,hg.output.trans hb.output,Nat.le_trans hb.size hg.size,fun k hk hne=>(hg.block k (Nat.lt_of_lt_of_le hk hb.size) hne).trans (hb.block k hk)⟩
structure qV (w0:wD) (n1 l bb bm bt yb bo:Nat) (W:wD):Prop where
 ck:bC w0 W
 cy:W.cell? ⟨yb,0,none⟩=some (.func (.yield l) #[] #[])
 co:W.cell? ⟨bo,0,none⟩=some (.func (.func 85) #[] #[pN (some ⟨bb,0,none⟩),pN (some ⟨yb,0,none⟩),pN (some ⟨bt,0,none⟩),pN (some ⟨bm,0,none⟩),pN (some ⟨bo,0,none⟩)])
 hy:n1<=yb
 ho:n1<=bo
 sz:n1<=W.heap.size
theorem qV.mk' {w0:wD} {n1 l bb bm bt yb bo m n:Nat} {C:Int->Int->Int} {W W':wD} (E:qV w0 n1 l bb bm bt yb bo W) (h:Mk w0.heap.size n1 (some m) W W') (hm:aO W m n C):qV w0 n1 l bb bm bt yb bo W':=
 ⟨E.ck.mk h hm,h.cell hm (.inr E.hy) E.cy,h.cell hm (.inr E.ho) E.co,E.hy,E.ho,Nat.le_trans E.sz h.size⟩
structure Rounds (B:Bk) (w0:wD) (n1 mb l:Nat) (J:List (List Int×Int)->wD->Prop):Prop where
 step: ∀p W W',J p W->W.grownBy W' (some mb)->J p W'
 round: ∀(p:List (List Int×Int)) (x:List Int×Int) (fa fc:Nat) (W:wD),J p W->SlI W (some ⟨fa,0,none⟩) x.1->n1<=fa->x.1.length=B.links.length->0<=x.2/\x.2<=17820->
  YieldAt Fence.wide 0 tP l #[.agg #[sL (some ⟨fa,0,none⟩) x.1.length fc,iN qi x.2]] W fun e W'=>e= rT (.bool true)/\J (p++ [x]) W'/\Mk w0.heap.size n1 none W W'
theorem MX:tP.arrayLen 91=6:=by kernel_rfl
theorem ZN:tP.elem 91=3:=by kernel_rfl
theorem ZO:tP.elem 42=3:=by kernel_rfl
theorem ZP (b sp:Nat) (h:sp<=6) (u:wD):(Instr.sliceAt 91 (pN (some ⟨b,0,none⟩)) none (some (iN qi (sp:Int))) none).run tP u= .ok (sL (some ⟨b,0,none⟩) sp 6) u:=by
 have ht:tP.underlying 91=some (.array (tP.arrayLen 91) (tP.elem 91)):=by kernel_rfl
 have z3:=Tryd.sizeOf3;rw[run_sliceAt_array_h u 91 ⟨b,0,none⟩ ht qi (sp:Int) (by omega) (by rw[MX];omega),MX,ZN];simp[slicedAt,z3,Result.andThen,Addr.add]
theorem ZQ (b n sp tc:Nat) (h:sp<=n) (u:wD):(Instr.slice 42 (sL (some ⟨b,0,none⟩) n tc) (some (iN qi (sp:Int))) none none).run tP u= .ok (sL (some (if tc=sp then ⟨b,0,none⟩ else ⟨b,sp,none⟩)) (n-sp) (tc-sp)) u:=by
 have ht:tP.underlying 42=some (.slice (tP.elem 42)):=by kernel_rfl
 have z3:=Tryd.sizeOf3;rw[run_slice_l u 42 (some ⟨b,0,none⟩) n tc ht qi (sp:Int) (by omega) (by omega),ZO];by_cases e:tc=sp
 ·simp[sliced,z3,Result.andThen,e]
 ·simp[sliced,z3,Result.andThen,Addr.add,e];omega
theorem MZ {W3 u u':wD} {bb:Nat} {a b c d:vL} (hb:bX W3.heap.size W3 u) (h0:u.cell? ⟨bb,0,none⟩=some a) (h1:u.cell? ⟨bb,1,none⟩=some b) (h2:u.cell? ⟨bb,2,none⟩=some c) (h3:u.cell? ⟨bb,3,none⟩=some d) (hk:bX u.heap.size u u'):
  bX W3.heap.size W3 u'/\u'.cell? ⟨bb,0,none⟩=some a/\u'.cell? ⟨bb,1,none⟩=some b/\u'.cell? ⟨bb,2,none⟩=some c/\u'.cell? ⟨bb,3,none⟩=some d:=
 ⟨hb.trans (hk.mono hb.size),aoF hk h0 (nR _),aoF hk h1 (nR _),aoF hk h2 (nR _),aoF hk h3 (nR _)⟩
theorem ZR (V:BkV) (B:Bk) (hB:Good B) (w0:wD) (mv:vL) (n1 mb l bb bm bt yb bo:Nat) (hs:aB w0 V B) (hv:Vars w0) (hoff:nP w0 V B mv bb bm bt mb) (h01:w0.heap.size<=n1) (hmb:mb<w0.heap.size) (J:List (List Int×Int)->wD->Prop) (R:Rounds B w0 n1 mb l J)
    (t:List Int) (tb tc n:Nat) (p:List (List Int×Int)) (W:wD) (hl:t.length=B.links.length) (ht: ∀x∈t,0<=x/\x<=5) (hx:SlI W (some ⟨tb,0,none⟩) t) (hc:B.links.length<=tc) (E:qV w0 n1 l bb bm bt yb bo W) (hj:J p W) (hbill:aO W mb n (bH B)) (hn:n+6<maxLen):
    cF tP 85 #[sL (some ⟨tb,0,none⟩) t.length tc,pN (some ⟨bb,0,none⟩),pN (some ⟨yb,0,none⟩),pN (some ⟨bt,0,none⟩),pN (some ⟨bm,0,none⟩),pN (some ⟨bo,0,none⟩)] W
      fun e W'=>e= rT (.bool true)/\J (p++ [iy B t]) W'/\Mk w0.heap.size n1 (some mb) W W'/\aO W' mb (n+6) (bH B):=by
  rw[hl];obtain⟨ta,la,pa,tcc,lc,pc⟩:=V;have hF:=hB.fine;have hl1:=hF.links;have ht1:=hF.towns;unfold Bk.spokes at hl1;obtain⟨tb',tofs',e',hT⟩:=tq hx hl (by omega) (ZK ht)
  cases e'
  have hOff:=hoff.of E.ck;have hIn:=hs.cells E.ck;have hg1:=E.ck _ _ _ hv.g1;obtain⟨b0,b1,b2,b3,m0,t0,t1,t2,t3,t4⟩:=hOff;have HE:=lH E;have HIn:=lH hIn;have HT:=lH hT;have HF:=lH hF;have HG:=lH hg1;have HX:=lH hx;have HL:=lH hl;have HR:=lH R;have Hoff:=lH hoff;have Hj:=lH hj;have Hbill:=lH hbill;have Ht:=lH ht;have HB:=lH hB;have Hs:=lH hs;clear hg1 hF hT hIn hx hl R hoff hj hbill E ht hB hs;go_enter Tryd.func85,Tryd.ntmps85
  go_wp2_with fail
  refine(c74 ⟨ta,la,pa,tcc,lc,pc⟩ B HF.out tb 0 tc (trk t) _ HIn.out.at HT.out HG.out).mono ?_;rintro e w2 ⟨rfl,hb2⟩
  go_wp2_with fail
  have HP:Hid (∀j,j<6->(w2.alloc (cL #[iN qi (aZ B (trk t) 0),iN qi (aZ B (trk t) 1),iN qi (aZ B (trk t) 2),iN qi (aZ B (trk t) 3),iN qi (aZ B (trk t) 4),iN qi (aZ B (trk t) 5)] 91)).cell? ⟨w2.heap.size,j,none⟩=some (iN qi (aZ B (trk t) j))):=lH fun j hj=>by
    match j,hj with
    | 0,_ | 1,_ | 2,_ | 3,_ | 4,_ | 5,_=>go_simp
  have Hb3:Hid (bX W.heap.size W (w2.alloc (cL #[iN qi (aZ B (trk t) 0),iN qi (aZ B (trk t) 1),iN qi (aZ B (trk t) 2),iN qi (aZ B (trk t) 3),iN qi (aZ B (trk t) 4),iN qi (aZ B (trk t) 5)] 91))):=lH (hb2.alloc hb2.size _);generalize w2.alloc (cL #[iN qi (aZ B (trk t) 0),iN qi (aZ B (trk t) 1),iN qi (aZ B (trk t) 2),iN qi (aZ B (trk t) 3),iN qi (aZ B (trk t) 4),iN qi (aZ B (trk t) 5)] 91)=W3 at *;generalize w2.heap.size=b9 at *;clear hb2;have k0:=aoF Hb3.out b0 (nR _);have k1:=aoF Hb3.out b1 (nR _);have k2:=aoF Hb3.out b2 (nR _);have k3:=aoF Hb3.out b3 (nR _);clear b0 b1 b2 b3 t0 t1 t2 t3 t4 m0;have hstart:bX W3.heap.size W3 W3.drew:=(bR _ _).drew;have HSP:Hid (B.spokes=B.towns.length-1):=lH rfl;obtain⟨sp,hsp⟩: ∃sp,B.spokes=sp:=⟨_,rfl⟩;have hsp1:(B.towns.length:Int)-1=(sp:Int):=by have:=HSP.out;omega
  have hsb:=ZQ tb B.links.length sp tc (by have:=HSP.out;omega);have hsa:=ZP b9 sp (by have:=HSP.out;omega);have HSp:=lH hsp;have hY:SlI W3 (some (if tc=sp then ⟨tb,0,none⟩ else ⟨tb,sp,none⟩)) (t.drop sp):=fun i x hi=>by
    have hi2:t[sp+i]? =some x:=by rw[List.getElem?_drop] at hi;exact hi
    obtain⟨b',o',e',h⟩:=HX.out (sp+i) x hi2
    cases e'
    have hlt:=(lS.1 hi2).1;have hne: ¬tc=sp:=by have:=HL.out;omega
    rw[if_neg hne];refine⟨tb,sp,rfl, ?_⟩;have:=aoF Hb3.out h (nR _);rwa [Nat.zero_add] at this
  have hH:SlI W3 (some ⟨b9,0,none⟩) (ku B t):=fun i x hi=>by
    have hil:=(lS.1 hi).1;rw[EM] at hil;unfold ku at hi;rw[List.getElem?_map,List.getElem?_range hil] at hi
    cases hi
    exact⟨b9,0,rfl,by rw[Nat.zero_add];exact HP.out i (by have:=HSP.out;omega)⟩
  have hfl:=MS (B:=B) (t:=t) HL.out HF.out.links.1;have H121:Hid (∀(u:wD) (sb:Nat),bX W3.heap.size W3 u->u.cell? ⟨sb,0,none⟩=some (sL (some ⟨b9,0,none⟩) sp 6)->u.cell? ⟨sb,1,none⟩=some (sL (some (if tc=sp then ⟨tb,0,none⟩ else ⟨tb,sp,none⟩)) (B.links.length-sp) (tc-sp))->
      cF tP 86 #[sL (some ⟨sb,0,none⟩) 2 2] u fun e u'=> ∃fb cap,e= rT (sL (some ⟨fb,0,none⟩) B.links.length cap)/\(n1<=fb/\SlI u' (some ⟨fb,0,none⟩) (jC B t))/\bX u.heap.size u u'):=lH fun u sb hu h0 h1=>by
    have e1:sp=(ku B t).length:=by rw[EM,HSp.out]
    have e2:B.links.length-sp=(t.drop sp).length:=by rw[List.length_drop,HL.out]
    rw[e2] at h1;rw[show (Value.slice (some ⟨b9,0,none⟩) sp 6)= sL (some ⟨b9,0,none⟩) (ku B t).length 6 by rw[<-e1]] at h0;have e3:ku B t++t.drop sp=jC B t:=by unfold jC;rw[HSp.out]
    have e4:(ku B t).length+(t.drop sp).length=B.links.length:=by rw[<-e1,<-e2];have:=HSP.out;have:=HSp.out;omega
    refine(Zi (ku B t) (t.drop sp) sb 2 _ _ 6 (tc-sp) u h0 h1 (hH.below hu (nR _)) (hY.below hu (nR _)) (by omega) (by omega)).mono ?_;rintro e u' ⟨v,rfl,hown,hb⟩;rw[e3] at hown;obtain⟨fb,cap,rfl,g1,g2,g3,g4,g5⟩:=nO hown (by rw[hfl];omega);rw[hfl];refine⟨fb,cap,rfl,⟨?_,g3⟩,hb⟩;have:=HE.out.sz;have:=Hb3.out.size;have:=hu.size;omega
  clear hsp hY hH;generalize (if tc=sp then (⟨tb,0,none⟩:Addr) else ⟨tb,sp,none⟩)=ya at *
  go_region_held3 (fun w'=>bX W3.heap.size W3 w'/\w'.cell? ⟨bb,0,none⟩=some (iN qi B.hours)/\w'.cell? ⟨bb,1,none⟩=some (sL ta B.towns.length tcc)/\w'.cell? ⟨bb,2,none⟩=some (sL la B.links.length lc)/\w'.cell? ⟨bb,3,none⟩=some (sL pa B.pairs.length pc))
    (first
      |exact⟨hstart,k0,k1,k2,k3⟩
      | (go_split_ands;exact MZ (by assumption) (by assumption) (by assumption) (by assumption) (by assumption) (by assumption))
      | (go_split_ands;exact MZ (by assumption) (by assumption) (by assumption) (by assumption) (by assumption) ((bR _ _).alloc (nR _) _)))
    (first
      | (go_simp;go_at_call 44;go_split_ands;(with_reducible refine(c88 _ _ _ _ _ _ _ (by unfold maxLen;omega)).mono ?_);rintro e w1 ⟨rfl,hbel⟩)
      | (go_simp;go_at_call 86;go_split_ands;(with_reducible refine(H121.out _ _ (by assumption) (by go_simp) (by go_simp)).mono ?_);rintro e w1 ⟨fb,fc,rfl,hfull,hbel⟩))
  have HFull:=lH hfull;have HB1:Hid (bX W.heap.size W w1):=lH (Hb3.out.trans (Below.mono (by assumption:bX W3.heap.size W3 w1/\_).1 Hb3.out.size));have hoffW:=Hoff.out.of (HE.out.ck.trans (bC.of_below HB1.out (nR _)));obtain⟨_,_,_,_,_,t0,t1,t2,t3,t4⟩:=hoffW;have y0:=aoF HB1.out HE.out.cy (nR _);have hn0:w0.heap.size<=n1:=h01;have H82:Hid (∀u:wD,bX w1.heap.size w1 u->cF tP 57 #[.agg #[iN qi B.hours,sL ta B.towns.length tcc,sL la B.links.length lc,sL pa B.pairs.length pc,.map (some mb)],sL (some ⟨fb,0,none⟩) B.links.length fc] u fun e u'=>e= rT (iN qi (iy B t).2)/\u'.cell? ⟨yb,0,none⟩=some (.func (.yield l) #[] #[])/\
      ∃fn tmps assign body,(Instr.yield l #[.agg #[sL (some ⟨fb,0,none⟩) B.links.length fc,iN qi (iy B t).2]]).run tP u'= .ok (.round l fn tmps assign body) u'/\RoundIn Fence.wide 0 tP l fn tmps assign body u' fun e W'=>e= rT (.bool true)/\
        Hid (J (p++ [iy B t]) W'/\Mk w0.heap.size n1 (some mb) W W'/\aO W' mb (n+6) (bH B))):=lH fun u hu=>by
    have hbu:=HB1.out.trans (hu.mono HB1.out.size);have hbill:=Hbill.out.below hbu Hbill.out.lt;have hin:=Hs.out.cells (HE.out.ck.trans (bC.of_below hbu (nR _)));have hc:=c82 ⟨ta,la,pa,tcc,lc,pc⟩ B HB.out (jC B t) (some ⟨fb,0,none⟩) fc mb n u hin (HFull.out.2.below hu (nR _)) hfl (MW HF.out Ht.out) hn hbill;rw[hfl] at hc;refine hc.mono ?_;rintro e u' ⟨rfl,hb',hg⟩;have hgW:W.grownBy u' (some mb):=below_grown hbu hg;have hjJ:=HR.out.step p W u' Hj.out hgW;have hck:=bC.of_grown hg hbill;have hobd:=ZL HB.out Ht.out HL.out;obtain⟨fn,tmps,assign,body,hy,hR⟩:=HR.out.round p (iy B t) fb fc u' hjJ (by exact(HFull.out.2.below hu (nR _)).cells hck) HFull.out.1 hfl hobd;have e2:(iy B t).1.length=B.links.length:=hfl;rw[e2] at hy;refine⟨by rw[<-hfl];rfl,hck _ _ _ (aoF hu y0 (nR _)),fn,tmps,assign,body,hy,hR.mono ?_⟩;rintro e W' ⟨rfl,hj2,hm2⟩;exact⟨rfl,lH ⟨hj2,(Mk.of_grown hgW hmb hn0).trans hm2.some_of,hb'.mk hm2 hmb⟩⟩
  have hmix:tP.follows .mixedOrders=true:=by kernel_rfl
  generalize (iy B t).2=cst at *
  go_wp2_with fail
  refine wpIn_wide (n:=1).1 ?_
  gi_region_with_o (first
    | (refine⟨trivial, ?_⟩;gi_at_call 57;refine(callsIn_wide.2 (H82.out _ (bR _ _).drew)).mono ?_;rintro e w2 ⟨rfl,y1,fn,tmps,assign,body,hy,hR⟩)
    | (refine hR.mono ?_;rintro e w3 ⟨rfl,hfin⟩))
  all_goals (go_simp;go_wp2;go_ret;exact⟨rfl,hfin.out⟩)
structure tN (B:Bk) (may:Int->Bool) (n0 n1 mb:Nat) (J:List (List Int×Int)->wD->Prop) (p:List (List Int×Int)) (t:List Int) (m n:Nat) (W:wD) (k:Nat) (wr:wD):Prop where
 j:J (p++upTo B may m t k) wr
 kept:Mk n0 n1 (some mb) W wr
 bill:aO wr mb (n+k*(6*6^m)) (bH B)
theorem Na (t:List Int) (k:Int):ints t++ [iN qi k]=ints (t++ [k]):=by simp[ints]
theorem BD {w:wD} {b:Nat} {x:Int} (h:w.cell? ⟨b,0,none⟩=some (iN qi x)): ∀(j:Nat) (u:vL),([iN qi x]:List vL)[j]? =some u->w.cell? ((⟨b,0,none⟩:Addr).add j)=some u:=fun j u hu=>by
 match j,hu with
 | 0,hu=>cases hu;simpa[Addr.add] using h
theorem BF (w:wD) (x:Int) (t:TypeId):(w.alloc (cL #[iN qi x] t)).cell? ⟨w.heap.size,0,none⟩=some (iN qi x):=by simp
theorem Nb {wr u w2:wD} {v:vL} {n:Nat} {xs:List vL} (hb:bX wr.heap.size wr u) (ho:u.ownsRow wr.heap.size 3 1 v n xs) (hg:u.grownBy w2 v.ownBlock):bX wr.heap.size wr w2:=
 hb.grown hg hb.size (fun k hk=>(ho.lt k hk).1)
theorem Nc {wr u w1 w2:wD} {v:vL} {n:Nat} {xs:List vL} (hb:bX wr.heap.size wr w1) (ho:w1.ownsRow wr.heap.size 3 1 v n xs) (hg:u.grownBy w2 v.ownBlock) (hu:u=w1\/ ∃o,u=w1.alloc o:=by first |exact .inl rfl |exact .inr ⟨_,rfl⟩):bX wr.heap.size wr w2:=by
 rcases hu with rfl |⟨o,rfl⟩
 ·exact Nb hb ho hg
 ·exact Nb (bM hb) (ho.alloc o) hg
theorem _root_.Go.World.grownBy.of_below {w w':wD} (h:bX w.heap.size w w') (row:Option Nat):w.grownBy w' row:=⟨h.os,h.tape,h.output,h.size,fun k hk _=>h.block k hk⟩
theorem ZT (V:BkV) (B:Bk) (hB:Good B) (w0:wD) (fm:FuncId) (pre post:Array vL) (may:Int->Bool) (n1 mb l bb bm bt yb bo:Nat) (hs:aB w0 V B) (hv:Vars w0) (hoff:nP w0 V B (.func (.func fm) pre post) bb bm bt mb) (h01:w0.heap.size<=n1) (hmb:mb<w0.heap.size)
    (hcf: ∀(args:Array vL) (u:wD),(callFunc fm args).run tP u= .ok (.enter fm args) u)
    (hmay: ∀(i:Nat) (u:wD),bC w0 u->cF tP fm (pre.push (iN qi (i:Int))++post) u fun e u'=>e= rT (.bool (may (i:Int)))/\bX u.heap.size u u')
    (J:List (List Int×Int)->wD->Prop) (R:Rounds B w0 n1 mb l J):
    ∀(m:Nat) (t:List Int) (tb tc n:Nat) (p:List (List Int×Int)) (W:wD),t.length+m=B.links.length->B.spokes<=t.length->(∀x∈t,0<=x/\x<=5)->SlI W (some ⟨tb,0,none⟩) t->n1<=tb->t.length<=tc->qV w0 n1 l bb bm bt yb bo W->J p W->aO W mb n (bH B)->n+6*6^m+6<maxLen->
    cF tP 85 #[sL (some ⟨tb,0,none⟩) t.length tc,pN (some ⟨bb,0,none⟩),pN (some ⟨yb,0,none⟩),pN (some ⟨bt,0,none⟩),pN (some ⟨bm,0,none⟩),pN (some ⟨bo,0,none⟩)] W
      fun e W'=>e= rT (.bool true)/\J (p++(moreL may m t).map (iy B)) W'/\Mk w0.heap.size n1 (some mb) W W'/\aO W' mb (n+6*6^m) (bH B):=by
  intro m
  induction m with
  |zero=>
    intro t tb tc n p W hl hsp ht hx htb hc E hj hbill hn;exact ZR V B hB w0 _ n1 mb l bb bm bt yb bo hs hv hoff h01 hmb J R t tb tc n p W hl ht hx (by rw[<-hl];exact hc) E hj hbill (by omega)
  |succ m ih=>
    intro t tb tc n p W hl hsp ht hx htb hc E hj hbill hn;have hF:=hB.fine;have hl1:=hF.links;have ht1:=hF.towns;have hOff:=hoff.of E.ck;have hsp1:1<=t.length:=by unfold Bk.spokes at hsp;omega
    have hne:(t.length:Int)≠(B.links.length:Int):=by omega
    have hne2:((t.length:Int)==(B.links.length:Int))=false:=by simp;omega
    obtain⟨_,_,b2,_,m0,_,_,_,_,_⟩:=hOff;have HE:=lH E;have HX:=lH hx;have HL:=lH hl;have HR:=lH R;have Hj:=lH hj;have Hbill:=lH hbill;have Ht:=lH ht;have HM:=lH hmay;have HIH:=lH ih;have Hn:=lH hn;clear hF hx hl R hj hbill E ht hmay ih hn;go_enter Tryd.func85,Tryd.ntmps85
    go_wp2_with fail
    refine(HM.out t.length W HE.out.ck).mono ?_;rintro e w2 ⟨rfl,hb2⟩;have hcase:(may (t.length:Int)=false/\iY may t.length=0/\ ∀k:Nat,k<iY may t.length+1↔(k:Int)<1)\/(may (t.length:Int)=true/\iY may t.length=5/\ ∀k:Nat,k<iY may t.length+1↔(k:Int)<6):=by
      unfold iY
      cases may (t.length:Int)
      · exact .inl ⟨rfl,rfl,fun k=>by simp;omega⟩
      · exact .inr ⟨rfl,rfl,fun k=>by simp;omega⟩
    have HS:Hid (tN B may w0.heap.size n1 mb J p t m n W 0 w2):=lH ⟨by
        rw[ZI,List.append_nil];exact HR.out.step p W w2 Hj.out (World.grownBy.of_below hb2 _),Mk.of_below hb2,(Hbill.out.below hb2 Hbill.out.lt).mono (Nat.le_add_right _ _)⟩
    clear hb2 b2 m0 hne hne2
    rcases hcase with ⟨hm,htop,hcmp⟩ |⟨hm,htop,hcmp⟩
    · rw[hm]
      have Htop:=lH htop;have Hcmp:=lH hcmp;clear hm htop hcmp;go_wp2
      go_loopw [45] (fun i wr=> ∃k:Nat,k<=iY may t.length+1/\i= iN qi (k:Int)/\tN B may w0.heap.size n1 mb J p t m n W k wr) (fun i _=>iY may t.length+1-(intOf i).toNat)
      case atStart=>exact⟨0,Nat.zero_le _,rfl,HS.out⟩
      case round=>
        obtain⟨k,hk,rfl,hI⟩:=hrel;have HI:=lH hI;clear hI;by_cases hlt:k<iY may t.length+1
        · have hlt':=(Hcmp.out k).1 hlt
          have hk5:k<=5:=by have:=Htop.out;omega
          have HEr:=lH (HE.out.mk' HI.out.kept Hbill.out);have co:=HEr.out.co;have HCo:=lH co;have HXr:Hid (SlI wr (some ⟨tb,0,none⟩) t):=lH (HX.out.mk HI.out.kept Hbill.out fun a e=>by cases e;exact htb);have HD:Hid (bX wr.heap.size wr wr.drew):=lH (bR _ _).drew;have H122:Hid (∀u:wD,bX wr.heap.size wr u->cF tP 87 #[sL (some ⟨tb,0,none⟩) t.length tc] u fun e u'=> ∃g cap,e= rT (sL (some ⟨g,0,none⟩) t.length cap)/\u'.ownsRow wr.heap.size 3 1 (sL (some ⟨g,0,none⟩) t.length cap) t.length (ints t)/\bX u.heap.size u u'/\bX wr.heap.size wr u'/\
              u'.cell? ⟨bo,0,none⟩=some (.func (.func 85) #[] #[pN (some ⟨bb,0,none⟩),pN (some ⟨yb,0,none⟩),pN (some ⟨bt,0,none⟩),pN (some ⟨bm,0,none⟩),pN (some ⟨bo,0,none⟩)])):=lH fun u hu=>by
            refine(MC t (some ⟨tb,0,none⟩) tc u (HXr.out.below hu (nR _)) (by have:=HL.out;omega) (by intro h;cases h)).mono ?_;rintro e u' ⟨v,rfl,hown,hb⟩;obtain⟨g,cap,rfl,_,_,_,_,_⟩:=nO hown hsp1;have hb2:=hu.trans (hb.mono hu.size);exact⟨g,cap,rfl,hown.base hu.size,hb,hb2,aoF hb2 HCo.out (nR _)⟩
          have H120:Hid (∀(u:wD) (g cap:Nat),bX wr.heap.size wr u->u.ownsRow wr.heap.size 3 1 (sL (some ⟨g,0,none⟩) (t.length+1) cap) (t.length+1) (ints t++ [iN qi (k:Int)])->cF tP 85 #[sL (some ⟨g,0,none⟩) (t.length+1) cap,pN (some ⟨bb,0,none⟩),pN (some ⟨yb,0,none⟩),pN (some ⟨bt,0,none⟩),pN (some ⟨bm,0,none⟩),pN (some ⟨bo,0,none⟩)] u
              fun e u'=>e= rT (.bool true)/\Hid (tN B may w0.heap.size n1 mb J p t m n W (k+1) u')/\u'.cell? ⟨bo,0,none⟩=some (.func (.func 85) #[] #[pN (some ⟨bb,0,none⟩),pN (some ⟨yb,0,none⟩),pN (some ⟨bt,0,none⟩),pN (some ⟨bm,0,none⟩),pN (some ⟨bo,0,none⟩)])):=lH fun u g cap hu hown=>by
            have e1:t.length+1=(t++ [(k:Int)]).length:=by simp
            rw[Na,e1] at hown;obtain⟨g',cap',e2,h1,h2,h3,h4,h5⟩:=nO hown (by simp);simp only[Value.slice.injEq,Option.some.injEq,Addr.mk.injEq,and_true,true_and] at e2;obtain⟨rfl,rfl⟩:=e2;have hmu:Mk w0.heap.size n1 (some mb) W u:=HI.out.kept.trans (Mk.of_below hu);have hbu:=HI.out.bill.below hu HI.out.bill.lt;have hk6:k*(6*6^m)<=5*(6*6^m):=Nat.mul_le_mul_right _ hk5;have hpw:6*6^(m+1)=6*(6*6^m):=by rw[Nat.pow_succ];omega
            have hn:=Hn.out;rw[hpw] at hn;rw[e1];refine(HIH.out (t++ [(k:Int)]) g cap (n+k*(6*6^m)) (p++upTo B may m t k) u (by simp;have:=HL.out;omega) (by simp;omega) (fun x hx=> ?_) h3 (Nat.le_trans HEr.out.sz h1) h4 (HEr.out.mk' (Mk.of_below hu) HI.out.bill) (HR.out.step _ _ _ HI.out.j (World.grownBy.of_below hu _)) hbu (by omega)).mono ?_
            · rcases List.mem_append.1 hx with h |h
              · exact Ht.out x h
              · obtain rfl:x=(k:Int):=by simpa using h
                omega
            · rintro e u' ⟨rfl,hj2,hm2,hb2⟩
              refine⟨rfl,lH ⟨?_,hmu.trans hm2, ?_⟩,(HEr.out.mk' ((Mk.of_below hu).trans hm2) HI.out.bill).co⟩
              · rw[MQ,<-List.append_assoc];exact hj2
              · rw[Nat.succ_mul,<-Nat.add_assoc];exact hb2
          have HD2:Hid (∀o,bX wr.heap.size wr (wr.drew.alloc o)):=lH fun o=>bM HD.out;have H1c:Hid (∀u∈([iN qi (k:Int)]:List vL),u.oneCell'=true):=lH (by simp[Value.oneCell']);have Hb63:Hid (t.length+1<=maxLen):=lH (by have:=HL.out;unfold maxLen;omega);have Hbb:Hid ((t.length+1)*8<=140737488355328):=lH (by have:=HL.out;omega);have hinfo:=info3;obtain⟨i0,hi,hz0,hz1,hz2⟩:=info_parts info3;clear hinfo
          go_wp2_with fail
          go_region_held3 (fun w'=>w'.cell? ⟨bo,0,none⟩=some (.func (.func 85) #[] #[pN (some ⟨bb,0,none⟩),pN (some ⟨yb,0,none⟩),pN (some ⟨bt,0,none⟩),pN (some ⟨bm,0,none⟩),pN (some ⟨bo,0,none⟩)]))
            (first
              |assumption
              |exact HCo.out
              |exact jL (by assumption))
            (first
              | (go_simp;go_at_call 87;(with_reducible refine(H122.out _ ?_).mono ?_);(first |exact HD.out |exact HD2.out _);rintro e w1 ⟨g,cap,rfl,hown,hbel,hbw,hco⟩)
              | (go_simp;go_at_call 85;(with_reducible refine(H120.out _ _ _ hbw2 hown2).mono ?_);rintro e w1 ⟨rfl,hfin,hco3⟩)
              | ((refine step_append_lies _ (by rfl) _ _ 42 (by rfl) wr.heap.size 3 i0 (iN qi 0) 1 8 Tryd.underlying42 hi hz0 hz1 hz2 (by rfl) (by decide) (sL (some ⟨g,0,none⟩) t.length cap) t.length (ints t) (by rfl) ?_ ⟨_,0,none⟩ 1 1 [iN qi (k:Int)] (by rfl) (by rfl) ?_ H1c.out (by decide) Hb63.out Hbb.out ?_ _ rfl ?_);(first |exact hown |exact hown.alloc _);(first | (refine BD ?_;exact aoF hbel (BF _ _ _) (nR _)) | (refine BD ?_;exact BF _ _ _));(first |exact hbw.size |exact(bM hbw).size);intro g2 cap2 w2 hown2 hgrow hat hltt;have hbw2:bX wr.heap.size wr w2:=Nc hbw hown hgrow;have hco2:=aoF hbw2 HCo.out (nR _)))
          · go_wp2
            go_roundw
            case rel=>exact⟨k+1,by omega,by go_num,hfin.out⟩
            case measure=>simp[intOf];omega
          · go_wp2
            go_roundw
            case rel=>exact⟨k+1,by omega,by go_num,hfin.out⟩
            case measure=>simp[intOf];omega
        · have hge:=mt (Hcmp.out k).2 hlt
          have hke:k=iY may t.length+1:=by omega
          have HFin:Hid (J (p++(moreL may (m+1) t).map (iy B)) wr/\Mk w0.heap.size n1 (some mb) W wr/\aO wr mb (n+6*6^(m+1)) (bH B)):=lH ⟨by rw[<-MR,<-hke];exact HI.out.j,HI.out.kept,HI.out.bill.mono (by
            have h6:k*(6*6^m)<=6*(6*6^m):=Nat.mul_le_mul_right _ (by have:=Htop.out;omega);have hpw:6*6^(m+1)=6*(6*6^m):=by rw[Nat.pow_succ];omega
            omega)⟩
          clear HI;go_wp2;go_ret;exact⟨rfl,HFin.out⟩
    · rw[hm]
      have Htop:=lH htop;have Hcmp:=lH hcmp;clear hm htop hcmp;go_wp2
      go_loopw [45] (fun i wr=> ∃k:Nat,k<=iY may t.length+1/\i= iN qi (k:Int)/\tN B may w0.heap.size n1 mb J p t m n W k wr) (fun i _=>iY may t.length+1-(intOf i).toNat)
      case atStart=>exact⟨0,Nat.zero_le _,rfl,HS.out⟩
      case round=>
        obtain⟨k,hk,rfl,hI⟩:=hrel;have HI:=lH hI;clear hI;by_cases hlt:k<iY may t.length+1
        · have hlt':=(Hcmp.out k).1 hlt
          have hk5:k<=5:=by have:=Htop.out;omega
          have HEr:=lH (HE.out.mk' HI.out.kept Hbill.out);have co:=HEr.out.co;have HCo:=lH co;have HXr:Hid (SlI wr (some ⟨tb,0,none⟩) t):=lH (HX.out.mk HI.out.kept Hbill.out fun a e=>by cases e;exact htb);have HD:Hid (bX wr.heap.size wr wr.drew):=lH (bR _ _).drew;have H122:Hid (∀u:wD,bX wr.heap.size wr u->cF tP 87 #[sL (some ⟨tb,0,none⟩) t.length tc] u fun e u'=> ∃g cap,e= rT (sL (some ⟨g,0,none⟩) t.length cap)/\u'.ownsRow wr.heap.size 3 1 (sL (some ⟨g,0,none⟩) t.length cap) t.length (ints t)/\bX u.heap.size u u'/\bX wr.heap.size wr u'/\
              u'.cell? ⟨bo,0,none⟩=some (.func (.func 85) #[] #[pN (some ⟨bb,0,none⟩),pN (some ⟨yb,0,none⟩),pN (some ⟨bt,0,none⟩),pN (some ⟨bm,0,none⟩),pN (some ⟨bo,0,none⟩)])):=lH fun u hu=>by
            refine(MC t (some ⟨tb,0,none⟩) tc u (HXr.out.below hu (nR _)) (by have:=HL.out;omega) (by intro h;cases h)).mono ?_;rintro e u' ⟨v,rfl,hown,hb⟩;obtain⟨g,cap,rfl,_,_,_,_,_⟩:=nO hown hsp1;have hb2:=hu.trans (hb.mono hu.size);exact⟨g,cap,rfl,hown.base hu.size,hb,hb2,aoF hb2 HCo.out (nR _)⟩
          have H120:Hid (∀(u:wD) (g cap:Nat),bX wr.heap.size wr u->u.ownsRow wr.heap.size 3 1 (sL (some ⟨g,0,none⟩) (t.length+1) cap) (t.length+1) (ints t++ [iN qi (k:Int)])->cF tP 85 #[sL (some ⟨g,0,none⟩) (t.length+1) cap,pN (some ⟨bb,0,none⟩),pN (some ⟨yb,0,none⟩),pN (some ⟨bt,0,none⟩),pN (some ⟨bm,0,none⟩),pN (some ⟨bo,0,none⟩)] u
              fun e u'=>e= rT (.bool true)/\Hid (tN B may w0.heap.size n1 mb J p t m n W (k+1) u')/\u'.cell? ⟨bo,0,none⟩=some (.func (.func 85) #[] #[pN (some ⟨bb,0,none⟩),pN (some ⟨yb,0,none⟩),pN (some ⟨bt,0,none⟩),pN (some ⟨bm,0,none⟩),pN (some ⟨bo,0,none⟩)])):=lH fun u g cap hu hown=>by
            have e1:t.length+1=(t++ [(k:Int)]).length:=by simp
            rw[Na,e1] at hown;obtain⟨g',cap',e2,h1,h2,h3,h4,h5⟩:=nO hown (by simp);simp only[Value.slice.injEq,Option.some.injEq,Addr.mk.injEq,and_true,true_and] at e2;obtain⟨rfl,rfl⟩:=e2;have hmu:Mk w0.heap.size n1 (some mb) W u:=HI.out.kept.trans (Mk.of_below hu);have hbu:=HI.out.bill.below hu HI.out.bill.lt;have hk6:k*(6*6^m)<=5*(6*6^m):=Nat.mul_le_mul_right _ hk5;have hpw:6*6^(m+1)=6*(6*6^m):=by rw[Nat.pow_succ];omega
            have hn:=Hn.out;rw[hpw] at hn;rw[e1];refine(HIH.out (t++ [(k:Int)]) g cap (n+k*(6*6^m)) (p++upTo B may m t k) u (by simp;have:=HL.out;omega) (by simp;omega) (fun x hx=> ?_) h3 (Nat.le_trans HEr.out.sz h1) h4 (HEr.out.mk' (Mk.of_below hu) HI.out.bill) (HR.out.step _ _ _ HI.out.j (World.grownBy.of_below hu _)) hbu (by omega)).mono ?_
            · rcases List.mem_append.1 hx with h |h
              · exact Ht.out x h
              · obtain rfl:x=(k:Int):=by simpa using h
                omega
            · rintro e u' ⟨rfl,hj2,hm2,hb2⟩
              refine⟨rfl,lH ⟨?_,hmu.trans hm2, ?_⟩,(HEr.out.mk' ((Mk.of_below hu).trans hm2) HI.out.bill).co⟩
              · rw[MQ,<-List.append_assoc];exact hj2
              · rw[Nat.succ_mul,<-Nat.add_assoc];exact hb2
          have HD2:Hid (∀o,bX wr.heap.size wr (wr.drew.alloc o)):=lH fun o=>bM HD.out;have H1c:Hid (∀u∈([iN qi (k:Int)]:List vL),u.oneCell'=true):=lH (by simp[Value.oneCell']);have Hb63:Hid (t.length+1<=maxLen):=lH (by have:=HL.out;unfold maxLen;omega);have Hbb:Hid ((t.length+1)*8<=140737488355328):=lH (by have:=HL.out;omega);have hinfo:=info3;obtain⟨i0,hi,hz0,hz1,hz2⟩:=info_parts info3;clear hinfo
          go_wp2_with fail
          go_region_held3 (fun w'=>w'.cell? ⟨bo,0,none⟩=some (.func (.func 85) #[] #[pN (some ⟨bb,0,none⟩),pN (some ⟨yb,0,none⟩),pN (some ⟨bt,0,none⟩),pN (some ⟨bm,0,none⟩),pN (some ⟨bo,0,none⟩)]))
            (first
              |assumption
              |exact HCo.out
              |exact jL (by assumption))
            (first
              | (go_simp;go_at_call 87;(with_reducible refine(H122.out _ ?_).mono ?_);(first |exact HD.out |exact HD2.out _);rintro e w1 ⟨g,cap,rfl,hown,hbel,hbw,hco⟩)
              | (go_simp;go_at_call 85;(with_reducible refine(H120.out _ _ _ hbw2 hown2).mono ?_);rintro e w1 ⟨rfl,hfin,hco3⟩)
              | ((refine step_append_lies _ (by rfl) _ _ 42 (by rfl) wr.heap.size 3 i0 (iN qi 0) 1 8 Tryd.underlying42 hi hz0 hz1 hz2 (by rfl) (by decide) (sL (some ⟨g,0,none⟩) t.length cap) t.length (ints t) (by rfl) ?_ ⟨_,0,none⟩ 1 1 [iN qi (k:Int)] (by rfl) (by rfl) ?_ H1c.out (by decide) Hb63.out Hbb.out ?_ _ rfl ?_);(first |exact hown |exact hown.alloc _);(first | (refine BD ?_;exact aoF hbel (BF _ _ _) (nR _)) | (refine BD ?_;exact BF _ _ _));(first |exact hbw.size |exact(bM hbw).size);intro g2 cap2 w2 hown2 hgrow hat hltt;have hbw2:bX wr.heap.size wr w2:=Nc hbw hown hgrow;have hco2:=aoF hbw2 HCo.out (nR _)))
          · go_wp2
            go_roundw
            case rel=>exact⟨k+1,by omega,by go_num,hfin.out⟩
            case measure=>simp[intOf];omega
          · go_wp2
            go_roundw
            case rel=>exact⟨k+1,by omega,by go_num,hfin.out⟩
            case measure=>simp[intOf];omega
        · have hge:=mt (Hcmp.out k).2 hlt
          have hke:k=iY may t.length+1:=by omega
          have HFin:Hid (J (p++(moreL may (m+1) t).map (iy B)) wr/\Mk w0.heap.size n1 (some mb) W wr/\aO wr mb (n+6*6^(m+1)) (bH B)):=lH ⟨by rw[<-MR,<-hke];exact HI.out.j,HI.out.kept,HI.out.bill.mono (by
            have h6:k*(6*6^m)<=6*(6*6^m):=Nat.mul_le_mul_right _ (by have:=Htop.out;omega);have hpw:6*6^(m+1)=6*(6*6^m):=by rw[Nat.pow_succ];omega
            omega)⟩
          clear HI;go_wp2;go_ret;exact⟨rfl,HFin.out⟩
theorem ZU (k i:Nat) (h:i<k):(madeCells #[Value.int qi 0] k)[i]? =some (iN qi 0):=by
 simp[madeCells,Nat.mod_one,h]
theorem ZV (k:Nat) (h:k<=1000) (u:wD):(Instr.makeSlice 42 (iN qi (k:Int)) (iN qi (k:Int))).run tP u= .ok (sL (some ⟨u.heap.size,0,none⟩) k k) (u.alloc (cL (madeCells #[Value.int qi 0] k) 3)):=by
 obtain⟨i0,hi,hz0,hz1,hz2⟩:=info_parts info3;have:=run_makeSlice (P:=tP) u 42 3 i0 (iN qi 0) Tryd.underlying42 hi hz0 qi qi (k:Int) (k:Int) (by omega) (Int.le_refl _) (by rw[hz1];omega) (by rw[hz2];omega) (by omega);rw[hz1,Int.toNat_natCast,Nat.mul_one] at this;exact this
theorem ZW (k:Nat) (u:wD):SlI (u.alloc (cL (madeCells #[Value.int qi 0] k) 3)) (some ⟨u.heap.size,0,none⟩) (List.replicate k 0):=fun i x hi=>by
 have hil:=(lS.1 hi).1;simp only[List.length_replicate] at hil;rw[List.getElem?_replicate,if_pos hil] at hi
 cases hi
 refine⟨u.heap.size,0,rfl, ?_⟩;have:=heap_alloc_new u (cL (madeCells #[Value.int qi 0] k) 3);unfold World.cell?;rw[this];simpa using ZU k i hil
theorem c119 (V:BkV) (B:Bk) (hB:Good B) (w0:wD) (fm:FuncId) (pre post:Array vL) (may:Int->Bool) (n1 mb l bb bm bt n:Nat) (hs:aB w0 V B) (hv:Vars w0) (hoff:nP w0 V B (.func (.func fm) pre post) bb bm bt mb) (h01:w0.heap.size<=n1) (hmb:mb<w0.heap.size)
    (hcf: ∀(args:Array vL) (u:wD),(callFunc fm args).run tP u= .ok (.enter fm args) u)
    (hmay: ∀(i:Nat) (u:wD),bC w0 u->cF tP fm (pre.push (iN qi (i:Int))++post) u fun e u'=>e= rT (.bool (may (i:Int)))/\bX u.heap.size u u')
    (J:List (List Int×Int)->wD->Prop) (R:Rounds B w0 n1 mb l J) (W:wD) (hW:W.heap.size=n1) (hck:bC w0 W) (hj:J [] W) (hbill:aO W mb n (bH B)) (hn:n+6*6^6+6<maxLen):
    cF tP 84 #[.func (.yield l) #[] #[],pN (some ⟨bb,0,none⟩),pN (some ⟨bt,0,none⟩),pN (some ⟨bm,0,none⟩)] W fun e W'=>(∃v,e= rT v)/\J (oP B may) W':=by
  obtain⟨ta,la,pa,tcc,lc,pc⟩:=V;have hl1:=hB.fine.links;have ht1:=hB.fine.towns;have HSP:Hid (B.spokes=B.towns.length-1):=lH rfl;obtain⟨sp,hsp⟩: ∃sp,B.spokes=sp:=⟨_,rfl⟩;have hsp1:(B.towns.length:Int)-1=(sp:Int):=by have:=HSP.out;omega
  have HSp:=lH hsp;clear hsp;obtain⟨b0,b1,b2,b3,_,_,_,_,_,_⟩:=hoff.of hck;have HB:=lH hB;have HR:=lH R;have Hj:=lH hj;have Hck:=lH hck;have Hbill:=lH hbill;have HM:=lH hmay;have Hoff:=lH hoff;have Hs:=lH hs;have Hv:=lH hv;have Hcf:=lH hcf;have HW:=lH hW;clear hB R hj hck hbill hmay hoff hs hv hcf hW;go_enter Tryd.func84,Tryd.ntmps84
  go_wp2_with fail
  generalize hW2:((W.alloc (cL #[.func (.yield l) #[] #[]] 141)).alloc (cL #[.func (.func 85) #[] #[pN (some ⟨bb,0,none⟩),pN (some ⟨W.heap.size,0,none⟩),pN (some ⟨bt,0,none⟩),pN (some ⟨bm,0,none⟩),pN (some ⟨W.heap.size+1,0,none⟩)]] 107))=W2;have HBW:Hid (bX W.heap.size W W2):=lH (by subst hW2;exact((bR _ _).alloc (nR _) _).alloc (by simp) _);have cy:W2.cell? ⟨W.heap.size,0,none⟩=some (.func (.yield l) #[] #[]):=by subst hW2;go_simp
  have co:W2.cell? ⟨W.heap.size+1,0,none⟩=some (.func (.func 85) #[] #[pN (some ⟨bb,0,none⟩),pN (some ⟨W.heap.size,0,none⟩),pN (some ⟨bt,0,none⟩),pN (some ⟨bm,0,none⟩),pN (some ⟨W.heap.size+1,0,none⟩)]):=by subst hW2;go_simp
  have k0:=aoF HBW.out b0 (nR _);have k1:=aoF HBW.out b1 (nR _);have k2:=aoF HBW.out b2 (nR _);have k3:=aoF HBW.out b3 (nR _);clear b0 b1 b2 b3 hW2;have H120:Hid (∀(u:wD),bX W2.heap.size W2 u->cF tP 85 #[sL (some ⟨u.heap.size,0,none⟩) sp sp,pN (some ⟨bb,0,none⟩),pN (some ⟨W.heap.size,0,none⟩),pN (some ⟨bt,0,none⟩),pN (some ⟨bm,0,none⟩),pN (some ⟨W.heap.size+1,0,none⟩)] (u.alloc (cL (madeCells #[Value.int qi 0] sp) 3)) fun e u'=>e= rT (.bool true)/\Hid (J (oP B may) u')/\
      (u'.cell? ⟨bb,0,none⟩=some (iN qi B.hours)/\u'.cell? ⟨bb,1,none⟩=some (sL ta B.towns.length tcc)/\u'.cell? ⟨bb,2,none⟩=some (sL la B.links.length lc)/\u'.cell? ⟨bb,3,none⟩=some (sL pa B.pairs.length pc)/\
       u'.cell? ⟨W.heap.size+1,0,none⟩=some (.func (.func 85) #[] #[pN (some ⟨bb,0,none⟩),pN (some ⟨W.heap.size,0,none⟩),pN (some ⟨bt,0,none⟩),pN (some ⟨bm,0,none⟩),pN (some ⟨W.heap.size+1,0,none⟩)]))):=lH fun u hu=>by
    have hb2:=bM (o:= .cells (madeCells #[Value.int qi 0] sp) 3) hu;have hbW:=HBW.out.trans (hb2.mono HBW.out.size);have hw:=HW.out;have E:qV w0 n1 l bb bm bt W.heap.size (W.heap.size+1) (u.alloc (cL (madeCells #[Value.int qi 0] sp) 3)):=
      ⟨Hck.out.trans (bC.of_below hbW (nR _)),aoF hb2 cy (nR _),aoF hb2 co (nR _),by omega,by omega,by have:=hbW.size;omega⟩
    have hbl:=Hbill.out.below hbW Hbill.out.lt;have hlen:(List.replicate sp (0 :Int)).length=sp:=by simp
    have hm:(List.replicate sp (0 :Int)).length+(B.links.length-sp)=B.links.length:=by rw[hlen];have:=HSp.out;omega
    have hpow:6*6^(B.links.length-sp)<=6*6^6:=Nat.mul_le_mul_left _ (Nat.pow_le_pow_right (by decide) (by omega));have hc:=ZT ⟨ta,la,pa,tcc,lc,pc⟩ B HB.out w0 fm pre post may n1 mb l bb bm bt W.heap.size (W.heap.size+1) Hs.out Hv.out Hoff.out h01 hmb Hcf.out HM.out J HR.out (B.links.length-sp) (List.replicate sp 0) u.heap.size sp n [] _ hm (by rw[hlen,HSp.out];exact nR _) (fun x hx=>by rw[List.mem_replicate] at hx;omega) (ZW sp u)
      (by have:=hu.size;have:=HBW.out.size;omega) (by rw[hlen];exact nR _) E (HR.out.step _ _ _ Hj.out (World.grownBy.of_below hbW _)) hbl (by omega)
    rw[hlen] at hc;refine hc.mono ?_;rintro e u' ⟨rfl,hj2,hm2,_⟩;have E2:=E.mk' hm2 hbl;obtain⟨q0,q1,q2,q3,_,_,_,_,_,_⟩:=Hoff.out.of E2.ck;refine⟨rfl,lH ?_,q0,q1,q2,q3,E2.co⟩;rw[List.nil_append] at hj2;unfold oP;rw[HSp.out];exact hj2
  have hmk:=ZV sp (by have:=HSp.out;omega);have HD:Hid (bX W2.heap.size W2 W2.drew):=lH (bR _ _).drew;clear cy
  go_region_held3 (fun w'=>w'.cell? ⟨bb,0,none⟩=some (iN qi B.hours)/\w'.cell? ⟨bb,1,none⟩=some (sL ta B.towns.length tcc)/\w'.cell? ⟨bb,2,none⟩=some (sL la B.links.length lc)/\w'.cell? ⟨bb,3,none⟩=some (sL pa B.pairs.length pc)/\
       w'.cell? ⟨W.heap.size+1,0,none⟩=some (.func (.func 85) #[] #[pN (some ⟨bb,0,none⟩),pN (some ⟨W.heap.size,0,none⟩),pN (some ⟨bt,0,none⟩),pN (some ⟨bm,0,none⟩),pN (some ⟨W.heap.size+1,0,none⟩)]))
    (first
      |assumption
      |exact⟨k0,k1,k2,k3,co⟩
      | (go_split_ands;refine⟨aoF hbel ?_ (nR _),aoF hbel ?_ (nR _),aoF hbel ?_ (nR _),aoF hbel ?_ (nR _),aoF hbel ?_ (nR _)⟩<;>assumption)
      | (go_split_ands;refine⟨jL ?_,jL ?_,jL ?_,jL ?_,jL ?_⟩<;>assumption))
    (first
      | (go_simp;go_at_call 44;(with_reducible refine(c88 _ _ _ _ _ _ _ ?_).mono ?_);(unfold maxLen;omega);rintro e w1 ⟨rfl,hbel⟩;have hbw:=qB HD.out hbel)
      | (go_simp;go_at_call 85;(with_reducible refine(H120.out _ hbw).mono ?_);rintro e w3 ⟨rfl,hfin,hS⟩))
  go_wp2
  go_end0
  exact⟨⟨_,rfl⟩,hfin.out⟩
end Go.Proofs.YtfiiffnbggnkfaaDoor
