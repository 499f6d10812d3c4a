/- A part of the proof of a law; no conditions of its own. -/
import Derived.Test.YtfiiffnbggnkfaaDoorAv16
open Go renaming Addr→aD, Calls→cF, Value→vL, World→wD
open Go.RowKit renaming Below→bX
open Go.IntKind renaming i64→qi
open Go.Value renaming int→iN, slice→sL, pointer→pN
open Go.Ending renaming returned→rT
open Go.Obj renaming cells→cL
set_option maxRecDepth 100000
open Nat renaming le_refl→nR
open Go.Lib renaming hid→lH
open Go.RowKit.Below renaming refl→bR
open Go.Proofs.Tryd renaming prog→tP
open List renaming getElem?_eq_getElem→lG
open Go.World renaming block_lt_of_cell?→wBk
open List renaming getD_eq_getElem?_getD→lD
set_option maxHeartbeats 4000000
namespace Go.Proofs.YtfiiffnbggnkfaaDoor
open Go.RowKit Go.Rent Go.Tp Go.Conc
theorem info9:(tP.info? 9).map (fun i=>(i.zero,i.size,i.bytes))=some (some (.string ⟨#[]⟩),1,16):=by kernel_rfl
theorem Zn (news:List vL) (n:Nat) (xa:Option aD) (xc:Nat) (w:wD) (hl:news.length=n*1) (hn:n<=1000000) (h0:xa=none->n=0/\xc=0) (hc: ∀ad,xa=some ad-> ∀(j:Nat) (u:vL),news[j]? =some u->w.cell? (ad.add j)=some u) (h1: ∀u∈news,u.oneCell'=true):
  cF tP 89 #[sL xa n xc] w fun e w'=> ∃v,e= rT v/\w'.ownsRow w.heap.size 9 1 v n news/\bX w.heap.size w w':=by
 obtain⟨i0,hi,hz0,hz1,hz2⟩:=info_parts info9
 cases xa with
 |none=>
  obtain⟨rfl,rfl⟩:=h0 rfl;have hnil:news= []:=List.eq_nil_of_length_eq_zero (by omega);subst hnil;have HR:Hid (w.ownsRow w.heap.size 9 1 (sL none 0 0) 0 []/\bX w.heap.size w w):=lH ⟨World.ownsRow_nil _ _ _ _,bR _ _⟩;clear hc h1 hn h0 hl;have heq:=Lib.run_eql_slice_nil w 22 9 none 0 0 0 0 Tryd.underlying22;go_enter Tryd.func89,Tryd.ntmps89;go_wp2;go_ret;exact⟨_,rfl,HR.out⟩
 |some ad=>
  have hcc:=hc ad rfl;have heq:=Lib.run_eql_slice_nil w 22 9 (some ad) n xc 0 0 Tryd.underlying22;have hb1:bX w.heap.size w (w.alloc (cL #[] 9)):=(bR _ _).alloc (nR _) _;have HB1:=lH hb1;have hown:(w.alloc (cL #[] 9)).ownsRow w.heap.size 9 1 (sL (some ⟨w.heap.size,0,none⟩) 0 0) 0 []:=⟨rfl,.inr ⟨w.heap.size,0,#[],rfl,nR _,(MapKept.heap_alloc w _).1,nR _,Nat.zero_le _,rfl,rfl⟩⟩;have Hown:=lH hown;have Hnews:Hid (∀(j:Nat) (u:vL),news[j]? =some u->(w.alloc (cL #[] 9)).cell? (ad.add j)=some u):=lH (fun j u hu=>(hb1.cell (wBk w _ (hcc j u hu))).trans (hcc j u hu));have H1:=lH h1;have HL:=lH hl;clear hb1 hown hc hcc h0 h1 hl;go_enter Tryd.func89,Tryd.ntmps89
  go_wp2_with (at_builtin;refine wpList_append_own _ rfl _ _ 22 rfl w.heap.size 9 i0 (.string ⟨#[]⟩) 1 16 Tryd.underlying22 hi hz0 hz1 hz2 rfl (by decide) _ _ _ rfl Hown.out ad n xc news rfl HL.out Hnews.out H1.out (by unfold maxLen;omega) (by omega) (by simp) ?_;intro v w1 hown1 hgrow _)
  have HR:Hid (w1.ownsRow w.heap.size 9 1 v n news/\bX w.heap.size w w1):=lH ⟨by simpa using hown1,HB1.out.grown hgrow HB1.out.size (fun k hk=>by cases hk;exact nR _)⟩;clear hown1 hgrow;go_wp2;go_ret;exact⟨_,rfl,HR.out⟩
theorem Zo:(tP.info? 79).map (fun i=>(i.zero,i.size,i.bytes))=some (some (.agg #[iN qi 0,iN qi 0,sL none 0 0]),3,40):=by kernel_rfl
theorem Zp (news:List vL) (n:Nat) (xa:Option aD) (xc:Nat) (w:wD) (hl:news.length=n*3) (hn:n<=1000000) (h0:xa=none->n=0/\xc=0) (hc: ∀ad,xa=some ad-> ∀(j:Nat) (u:vL),news[j]? =some u->w.cell? (ad.add j)=some u) (h1: ∀u∈news,u.oneCell'=true):
  cF tP 90 #[sL xa n xc] w fun e w'=> ∃v,e= rT v/\w'.ownsRow w.heap.size 79 3 v n news/\bX w.heap.size w w':=by
 obtain⟨i0,hi,hz0,hz1,hz2⟩:=info_parts Zo
 cases xa with
 |none=>
  obtain⟨rfl,rfl⟩:=h0 rfl;have hnil:news= []:=List.eq_nil_of_length_eq_zero (by omega);subst hnil;have HR:Hid (w.ownsRow w.heap.size 79 3 (sL none 0 0) 0 []/\bX w.heap.size w w):=lH ⟨World.ownsRow_nil _ _ _ _,bR _ _⟩;clear hc h1 hn h0 hl;have heq:=Lib.run_eql_slice_nil w 23 79 none 0 0 0 0 Tryd.underlying23;go_enter Tryd.func90,Tryd.ntmps90;go_wp2;go_ret;exact⟨_,rfl,HR.out⟩
 |some ad=>
  have hcc:=hc ad rfl;have heq:=Lib.run_eql_slice_nil w 23 79 (some ad) n xc 0 0 Tryd.underlying23;have hb1:bX w.heap.size w (w.alloc (cL #[] 79)):=(bR _ _).alloc (nR _) _;have HB1:=lH hb1;have hown:(w.alloc (cL #[] 79)).ownsRow w.heap.size 79 3 (sL (some ⟨w.heap.size,0,none⟩) 0 0) 0 []:=⟨rfl,.inr ⟨w.heap.size,0,#[],rfl,nR _,(MapKept.heap_alloc w _).1,nR _,Nat.zero_le _,rfl,rfl⟩⟩;have Hown:=lH hown;have Hnews:Hid (∀(j:Nat) (u:vL),news[j]? =some u->(w.alloc (cL #[] 79)).cell? (ad.add j)=some u):=lH (fun j u hu=>(hb1.cell (wBk w _ (hcc j u hu))).trans (hcc j u hu));have H1:=lH h1;have HL:=lH hl;clear hb1 hown hc hcc h0 h1 hl;go_enter Tryd.func90,Tryd.ntmps90
  go_wp2_with (at_builtin;refine wpList_append_own _ rfl _ _ 23 rfl w.heap.size 79 i0 (.agg #[iN qi 0,iN qi 0,sL none 0 0]) 3 40 Tryd.underlying23 hi hz0 hz1 hz2 rfl (by decide) _ _ _ rfl Hown.out ad n xc news rfl HL.out Hnews.out H1.out (by unfold maxLen;omega) (by omega) (by simp) ?_;intro v w1 hown1 hgrow _)
  have HR:Hid (w1.ownsRow w.heap.size 79 3 v n news/\bX w.heap.size w w1):=lH ⟨by simpa using hown1,HB1.out.grown hgrow HB1.out.size (fun k hk=>by cases hk;exact nR _)⟩;clear hown1 hgrow;go_wp2;go_ret;exact⟨_,rfl,HR.out⟩
theorem Zq:(tP.info? 68).map (fun i=>(i.zero,i.size,i.bytes))=some (some (.agg #[iN qi 0,iN qi 0,sL none 0 0]),3,40):=by kernel_rfl
theorem Zr (news:List vL) (n:Nat) (xa:Option aD) (xc:Nat) (w:wD) (hl:news.length=n*3) (hn:n<=1000000) (h0:xa=none->n=0/\xc=0) (hc: ∀ad,xa=some ad-> ∀(j:Nat) (u:vL),news[j]? =some u->w.cell? (ad.add j)=some u) (h1: ∀u∈news,u.oneCell'=true):
  cF tP 91 #[sL xa n xc] w fun e w'=> ∃v,e= rT v/\w'.ownsRow w.heap.size 68 3 v n news/\bX w.heap.size w w':=by
 obtain⟨i0,hi,hz0,hz1,hz2⟩:=info_parts Zq
 cases xa with
 |none=>
  obtain⟨rfl,rfl⟩:=h0 rfl;have hnil:news= []:=List.eq_nil_of_length_eq_zero (by omega);subst hnil;have HR:Hid (w.ownsRow w.heap.size 68 3 (sL none 0 0) 0 []/\bX w.heap.size w w):=lH ⟨World.ownsRow_nil _ _ _ _,bR _ _⟩;clear hc h1 hn h0 hl;have heq:=Lib.run_eql_slice_nil w 24 68 none 0 0 0 0 Tryd.underlying24;go_enter Tryd.func91,Tryd.ntmps91;go_wp2;go_ret;exact⟨_,rfl,HR.out⟩
 |some ad=>
  have hcc:=hc ad rfl;have heq:=Lib.run_eql_slice_nil w 24 68 (some ad) n xc 0 0 Tryd.underlying24;have hb1:bX w.heap.size w (w.alloc (cL #[] 68)):=(bR _ _).alloc (nR _) _;have HB1:=lH hb1;have hown:(w.alloc (cL #[] 68)).ownsRow w.heap.size 68 3 (sL (some ⟨w.heap.size,0,none⟩) 0 0) 0 []:=⟨rfl,.inr ⟨w.heap.size,0,#[],rfl,nR _,(MapKept.heap_alloc w _).1,nR _,Nat.zero_le _,rfl,rfl⟩⟩;have Hown:=lH hown;have Hnews:Hid (∀(j:Nat) (u:vL),news[j]? =some u->(w.alloc (cL #[] 68)).cell? (ad.add j)=some u):=lH (fun j u hu=>(hb1.cell (wBk w _ (hcc j u hu))).trans (hcc j u hu));have H1:=lH h1;have HL:=lH hl;clear hb1 hown hc hcc h0 h1 hl;go_enter Tryd.func91,Tryd.ntmps91
  go_wp2_with (at_builtin;refine wpList_append_own _ rfl _ _ 24 rfl w.heap.size 68 i0 (.agg #[iN qi 0,iN qi 0,sL none 0 0]) 3 40 Tryd.underlying24 hi hz0 hz1 hz2 rfl (by decide) _ _ _ rfl Hown.out ad n xc news rfl HL.out Hnews.out H1.out (by unfold maxLen;omega) (by omega) (by simp) ?_;intro v w1 hown1 hgrow _)
  have HR:Hid (w1.ownsRow w.heap.size 68 3 v n news/\bX w.heap.size w w1):=lH ⟨by simpa using hown1,HB1.out.grown hgrow HB1.out.size (fun k hk=>by cases hk;exact nR _)⟩;clear hown1 hgrow;go_wp2;go_ret;exact⟨_,rfl,HR.out⟩
theorem Zt:(tP.info? 76).map (fun i=>(i.zero,i.size,i.bytes))=some (some (.agg #[iN qi 0,iN qi 0]),2,16):=by kernel_rfl
theorem Zu (news:List vL) (n:Nat) (xa:Option aD) (xc:Nat) (w:wD) (hl:news.length=n*2) (hn:n<=1000000) (h0:xa=none->n=0/\xc=0) (hc: ∀ad,xa=some ad-> ∀(j:Nat) (u:vL),news[j]? =some u->w.cell? (ad.add j)=some u) (h1: ∀u∈news,u.oneCell'=true):
  cF tP 92 #[sL xa n xc] w fun e w'=> ∃v,e= rT v/\w'.ownsRow w.heap.size 76 2 v n news/\bX w.heap.size w w':=by
 obtain⟨i0,hi,hz0,hz1,hz2⟩:=info_parts Zt
 cases xa with
 |none=>
  obtain⟨rfl,rfl⟩:=h0 rfl;have hnil:news= []:=List.eq_nil_of_length_eq_zero (by omega);subst hnil;have HR:Hid (w.ownsRow w.heap.size 76 2 (sL none 0 0) 0 []/\bX w.heap.size w w):=lH ⟨World.ownsRow_nil _ _ _ _,bR _ _⟩;clear hc h1 hn h0 hl;have heq:=Lib.run_eql_slice_nil w 77 76 none 0 0 0 0 Tryd.underlying77;go_enter Tryd.func92,Tryd.ntmps92;go_wp2;go_ret;exact⟨_,rfl,HR.out⟩
 |some ad=>
  have hcc:=hc ad rfl;have heq:=Lib.run_eql_slice_nil w 77 76 (some ad) n xc 0 0 Tryd.underlying77;have hb1:bX w.heap.size w (w.alloc (cL #[] 76)):=(bR _ _).alloc (nR _) _;have HB1:=lH hb1;have hown:(w.alloc (cL #[] 76)).ownsRow w.heap.size 76 2 (sL (some ⟨w.heap.size,0,none⟩) 0 0) 0 []:=⟨rfl,.inr ⟨w.heap.size,0,#[],rfl,nR _,(MapKept.heap_alloc w _).1,nR _,Nat.zero_le _,rfl,rfl⟩⟩;have Hown:=lH hown;have Hnews:Hid (∀(j:Nat) (u:vL),news[j]? =some u->(w.alloc (cL #[] 76)).cell? (ad.add j)=some u):=lH (fun j u hu=>(hb1.cell (wBk w _ (hcc j u hu))).trans (hcc j u hu));have H1:=lH h1;have HL:=lH hl;clear hb1 hown hc hcc h0 h1 hl;go_enter Tryd.func92,Tryd.ntmps92
  go_wp2_with (at_builtin;refine wpList_append_own _ rfl _ _ 77 rfl w.heap.size 76 i0 (.agg #[iN qi 0,iN qi 0]) 2 16 Tryd.underlying77 hi hz0 hz1 hz2 rfl (by decide) _ _ _ rfl Hown.out ad n xc news rfl HL.out Hnews.out H1.out (by unfold maxLen;omega) (by omega) (by simp) ?_;intro v w1 hown1 hgrow _)
  have HR:Hid (w1.ownsRow w.heap.size 76 2 v n news/\bX w.heap.size w w1):=lH ⟨by simpa using hown1,HB1.out.grown hgrow HB1.out.size (fun k hk=>by cases hk;exact nR _)⟩;clear hown1 hgrow;go_wp2;go_ret;exact⟨_,rfl,HR.out⟩
theorem MG:(tP.info? 33).map (fun i=>(i.zero,i.size,i.bytes))=some (some (.agg #[iN qi 0,iN qi 0]),2,16):=by kernel_rfl
theorem Zv (news:List vL) (n:Nat) (xa:Option aD) (xc:Nat) (w:wD) (hl:news.length=n*2) (hn:n<=1000000) (h0:xa=none->n=0/\xc=0) (hc: ∀ad,xa=some ad-> ∀(j:Nat) (u:vL),news[j]? =some u->w.cell? (ad.add j)=some u) (h1: ∀u∈news,u.oneCell'=true):
  cF tP 93 #[sL xa n xc] w fun e w'=> ∃v,e= rT v/\w'.ownsRow w.heap.size 33 2 v n news/\bX w.heap.size w w':=by
 obtain⟨i0,hi,hz0,hz1,hz2⟩:=info_parts MG
 cases xa with
 |none=>
  obtain⟨rfl,rfl⟩:=h0 rfl;have hnil:news= []:=List.eq_nil_of_length_eq_zero (by omega);subst hnil;have HR:Hid (w.ownsRow w.heap.size 33 2 (sL none 0 0) 0 []/\bX w.heap.size w w):=lH ⟨World.ownsRow_nil _ _ _ _,bR _ _⟩;clear hc h1 hn h0 hl;have heq:=Lib.run_eql_slice_nil w 27 33 none 0 0 0 0 Tryd.underlying27;go_enter Tryd.func93,Tryd.ntmps93;go_wp2;go_ret;exact⟨_,rfl,HR.out⟩
 |some ad=>
  have hcc:=hc ad rfl;have heq:=Lib.run_eql_slice_nil w 27 33 (some ad) n xc 0 0 Tryd.underlying27;have hb1:bX w.heap.size w (w.alloc (cL #[] 33)):=(bR _ _).alloc (nR _) _;have HB1:=lH hb1;have hown:(w.alloc (cL #[] 33)).ownsRow w.heap.size 33 2 (sL (some ⟨w.heap.size,0,none⟩) 0 0) 0 []:=⟨rfl,.inr ⟨w.heap.size,0,#[],rfl,nR _,(MapKept.heap_alloc w _).1,nR _,Nat.zero_le _,rfl,rfl⟩⟩;have Hown:=lH hown;have Hnews:Hid (∀(j:Nat) (u:vL),news[j]? =some u->(w.alloc (cL #[] 33)).cell? (ad.add j)=some u):=lH (fun j u hu=>(hb1.cell (wBk w _ (hcc j u hu))).trans (hcc j u hu));have H1:=lH h1;have HL:=lH hl;clear hb1 hown hc hcc h0 h1 hl;go_enter Tryd.func93,Tryd.ntmps93
  go_wp2_with (at_builtin;refine wpList_append_own _ rfl _ _ 27 rfl w.heap.size 33 i0 (.agg #[iN qi 0,iN qi 0]) 2 16 Tryd.underlying27 hi hz0 hz1 hz2 rfl (by decide) _ _ _ rfl Hown.out ad n xc news rfl HL.out Hnews.out H1.out (by unfold maxLen;omega) (by omega) (by simp) ?_;intro v w1 hown1 hgrow _)
  have HR:Hid (w1.ownsRow w.heap.size 33 2 v n news/\bX w.heap.size w w1):=lH ⟨by simpa using hown1,HB1.out.grown hgrow HB1.out.size (fun k hk=>by cases hk;exact nR _)⟩;clear hown1 hgrow;go_wp2;go_ret;exact⟨_,rfl,HR.out⟩
theorem c37 (n a b:Int) (w:wD):cF tP 59 #[iN qi n,iN qi a,iN qi b] w fun e w'=>e= rT (.bool (btw n a b))/\w'=w:=by
 by_cases h1:a<=n<;>by_cases h2:n<=b
 all_goals
  go_enter Tryd.func59,Tryd.ntmps59;go_wp2;go_ret;exact⟨by simp[btw,h1,h2],rfl⟩
theorem c80 (V:BkV) (B:Bk) (n:vL) (w:wD):cF tP 40 #[V.val B,n] w fun e w'=>e= rT (.bool true)/\bX w.heap.size w w':=by
 obtain⟨ta,la,pa,tc,lc,pc⟩:=V;go_enter Tryd.func40,Tryd.ntmps40;go_wp2;go_ret;exact⟨rfl,(bR _ _).alloc (nR _) _⟩
theorem c87 (V:BkV) (B:Bk) (n:vL) (w:wD):cF tP 36 #[V.val B,n] w fun e w'=>e= rT (.bool false)/\bX w.heap.size w w':=by
 obtain⟨ta,la,pa,tc,lc,pc⟩:=V;go_enter Tryd.func36,Tryd.ntmps36;go_wp2;go_ret;exact⟨rfl,(bR _ _).alloc (nR _) _⟩
theorem Zw (n k:Int) (b:Nat) (w:wD) (h:w.cell? ⟨b,0,none⟩=some (iN qi k)):cF tP 69 #[iN qi n,pN (some ⟨b,0,none⟩)] w fun e w'=>e= rT (.bool (n != k))/\w'=w:=by
 go_enter Tryd.func69,Tryd.ntmps69;go_wp2;go_ret;exact⟨rfl,rfl⟩
def upC (n by_:Int):Int:=(n*(100+by_)+99) / 100
theorem c109 (n k:Int) (b:Nat) (w:wD) (h:w.cell? ⟨b,0,none⟩=some (iN qi k)) (hn:0<=n/\n<=1000) (hk:0<=k/\k<=100):cF tP 72 #[iN qi n,pN (some ⟨b,0,none⟩)] w fun e w'=>e= rT (iN qi (upC n k))/\w'=w:=by
 have hm:0<=n*(100+k)/\n*(100+k)<=200000:=by
  constructor
  ·exact Int.mul_nonneg hn.1 (by omega)
  ·have h1:n*(100+k)<=1000*(100+k):=Int.mul_le_mul_of_nonneg_right hn.2 (by omega);omega
 have hw1:IntKind.wrap qi (n*(100+k))=n*(100+k):=IntWalk.i64_in _ (by omega);go_enter Tryd.func72,Tryd.ntmps72;go_wp2;go_ret;exact⟨rfl,rfl⟩
def iq:List Int->List Int->Bool
 | [],[]=>false
 | [],_::_=>true
 |_::_,[]=>false
 |a::l,b::m=>if a=b then iq l m else decide (a<b)
theorem Zx {xs ys:List Int} {k:Nat} (h:k<xs.length) (h2:k<ys.length):iq (xs.drop k) (ys.drop k)=if trk xs k=trk ys k then iq (xs.drop (k+1)) (ys.drop (k+1)) else decide (trk xs k<trk ys k):=by
 have t1:trk xs k=xs[k]:=by unfold trk;rw[lD,lG h];rfl
 have t2:trk ys k=ys[k]:=by unfold trk;rw[lD,lG h2];rfl
 rw[t1,t2,List.drop_eq_getElem_cons h,List.drop_eq_getElem_cons h2,iq]
theorem Zy {xs ys:List Int} {k:Nat} (hx:k<=xs.length) (hy:k<=ys.length) (h: ¬(k<xs.length/\k<ys.length)):iq (xs.drop k) (ys.drop k)=decide (xs.length<ys.length):=by
 by_cases h1:k<xs.length
 ·rw[List.drop_eq_getElem_cons h1,List.drop_of_length_le (show ys.length<=k by omega),iq];exact(decide_eq_false (by omega)).symm
 ·rw[List.drop_of_length_le (show xs.length<=k by omega)];by_cases h2:k<ys.length
  ·rw[List.drop_eq_getElem_cons h2,iq];exact(decide_eq_true (by omega)).symm
  ·rw[List.drop_of_length_le (show ys.length<=k by omega),iq];exact(decide_eq_false (by omega)).symm
theorem MH: ∀xs ys:List Int,(!iq xs ys&& !iq ys xs)=decide (xs=ys)
 | [],[]=>rfl
 | [],_::_=>rfl
 |_::_,[]=>rfl
 |a::l,b::m=>by
  unfold iq;by_cases e:a=b
  ·subst e;rw[if_pos rfl,if_pos rfl,MH l m];simp
  ·rw[if_neg e,if_neg (Ne.symm e)];simp[e];omega
theorem c41 (xs ys:List Int) (xa ya:Option aD) (xc yc:Nat) (w:wD) (hx:SlI w xa xs) (hy:SlI w ya ys) (hxl:xs.length<=1000000) (hyl:ys.length<=1000000):
  cF tP 78 #[sL xa xs.length xc,sL ya ys.length yc] w fun e w'=>e= rT (.bool (iq xs ys))/\bX w.heap.size w w':=by
 have HX:=lH hx;have HY:=lH hy;have HLn:=lH (And.intro hxl hyl);clear hx hy hxl hyl;go_enter Tryd.func78,Tryd.ntmps78
 go_wp2_with fail
 go_loopw [5] (fun i wr=> ∃k:Nat,k<=xs.length/\k<=ys.length/\i= iN qi (k:Int)/\iq xs ys=iq (xs.drop k) (ys.drop k)/\ ∃n,wr=w.drewN n) (fun i _=>xs.length-(intOf i).toNat)
 case atStart=>exact⟨0,Nat.zero_le _,Nat.zero_le _,rfl,rfl,0,rfl⟩
 case round=>
  obtain⟨k,hk,hk2,rfl,hfk,n,rfl⟩:=hrel;have Hfk:=lH hfk;clear hfk;by_cases hlt:k<xs.length/\k<ys.length
  ·obtain⟨hl1,hl2⟩:=hlt;obtain⟨tb,tofs,rfl,htk⟩:=oL HX.out hl1;obtain⟨sb,sofs,rfl,hsk⟩:=oL HY.out hl2;have hst:=Zx hl1 hl2;by_cases h0:trk xs k=trk ys k
   ·rw[if_pos h0] at hst;have HH:=lH (Hfk.out.trans hst);rw[<-h0] at hsk;clear hst h0;generalize trk xs k=a at *;have hl:=HLn.out.1
    go_wp2_with fail
    go_quiet (fail)
    go_wp2;go_roundw
    case rel=>exact⟨k+1,by omega,by omega,by go_num,HH.out,n+nq,rfl⟩
    case measure=>simp[intOf];omega
   ·rw[if_neg h0] at hst;have HH:=lH (Hfk.out.trans hst);have hne:(trk xs k != trk ys k)=true:=by simp[h0]
    clear hst h0;generalize trk xs k=a at *;generalize trk ys k=b at *
    go_wp2_with fail
    go_quiet (fail)
    go_wp2_with fail
    go_quiet (fail)
    go_wp2;go_ret;exact⟨by rw[HH.out];rfl,aV (aV (aV (bR _ _) _) _) _⟩
  ·have HH:=lH (Hfk.out.trans (Zy hk hk2 hlt));by_cases h1:k<xs.length
   ·have h2: ¬k<ys.length:=fun h=>hlt ⟨h1,h⟩;clear hlt;go_wp2;go_ret;exact⟨by rw[HH.out];rfl,aV (bR _ _) _⟩
   ·clear hlt;go_wp2;go_ret;exact⟨by rw[HH.out];rfl,aV (bR _ _) _⟩
theorem c29 (xs ys:List Int) (xa ya:Option aD) (xc yc:Nat) (w:wD) (hx:SlI w xa xs) (hy:SlI w ya ys) (hxl:xs.length<=1000000) (hyl:ys.length<=1000000):
  cF tP 58 #[sL xa xs.length xc,sL ya ys.length yc] w fun e w'=>e= rT (.bool (decide (xs=ys)))/\bX w.heap.size w w':=by
 have HX:=lH hx;have HY:=lH hy;have HD:=lH (MH xs ys);clear hx hy
 cases h1:iq xs ys with
 |true=>
  rw[h1] at HD;have HD2:Hid (decide (xs=ys)=false):=lH (HD.out.symm.trans (by simp));clear HD;have H1:=lH h1;clear h1;go_enter Tryd.func58,Tryd.ntmps58
  go_wp2_with fail
  refine(c41 xs ys xa ya xc yc _ HX.out HY.out hxl hyl).mono ?_;rintro e w1 ⟨rfl,hb⟩;rw[H1.out];have Hb:=lH hb;clear hb;go_wp2;go_ret;exact⟨by rw[HD2.out];rfl,Hb.out⟩
 |false=>
  rw[h1] at HD;have H1:=lH h1;clear h1;go_enter Tryd.func58,Tryd.ntmps58
  go_wp2_with fail
  refine(c41 xs ys xa ya xc yc _ HX.out HY.out hxl hyl).mono ?_;rintro e w1 ⟨rfl,hb⟩;rw[H1.out];have Hb:=lH hb;clear hb
  go_wp2_with fail
  refine(c41 ys xs ya xa yc xc _ (HY.out.below Hb.out (nR _)) (HX.out.below Hb.out (nR _)) hyl hxl).mono ?_;rintro e w2 ⟨rfl,hb2⟩;have Hb2:=lH (Hb.out.trans (hb2.mono Hb.out.size));have HD2:Hid (decide (xs=ys)= !iq ys xs):=lH (HD.out.symm.trans (by simp));clear hb2 HD;generalize iq ys xs=t at *;go_wp2;go_ret;exact⟨by rw[HD2.out];rfl,Hb2.out⟩
theorem c38 (xs ys:List Int) (xa ya:Option aD) (xc yc:Nat) (w:wD) (hx:SlI w xa xs) (hy:SlI w ya ys) (hxl:xs.length<=1000000) (hyl:ys.length<=1000000):
  cF tP 26 #[sL xa xs.length xc,sL ya ys.length yc] w fun e w'=>e= rT (.bool (decide (xs=ys)))/\bX w.heap.size w w':=by
 have HX:=lH hx;have HY:=lH hy;clear hx hy;go_enter Tryd.func26,Tryd.ntmps26
 go_wp2_with fail
 refine(c29 xs ys xa ya xc yc _ HX.out HY.out hxl hyl).mono ?_;rintro e w1 ⟨rfl,hb⟩;have Hb:=lH hb;clear hb;have HE:Hid (∃t,t=decide (xs=ys)):=lH ⟨_,rfl⟩;obtain⟨t,ht⟩:=HE.out;rw[<-ht];have Ht:=lH ht;clear ht;go_wp2;go_ret;exact⟨by rw[<-Ht.out];rfl,Hb.out⟩
theorem gU (n a b:Int) (w:wD):cF tP 59 #[iN qi n,iN qi a,iN qi b] w fun e w'=>e= rT (.bool (btw n a b))/\w=w':=(c37 n a b w).mono fun _ _ h=>⟨h.1,h.2.symm⟩
theorem c116 (c:Int) (w:wD):cF tP 95 #[.int .u8 c] w fun e w'=>e= rT (.bool (btw c 97 122))/\w=w':=by
 by_cases h1:97<=c<;>by_cases h2:c<=122
 all_goals
  go_enter Tryd.func95,Tryd.ntmps95;go_wp2;go_ret;exact⟨by simp[btw,h1,h2],rfl⟩
theorem c117 (c:Int) (w:wD):cF tP 96 #[.int .u8 c] w fun e w'=>e= rT (.bool (btw c 48 57))/\w=w':=by
 by_cases h1:48<=c<;>by_cases h2:c<=57
 all_goals
  go_enter Tryd.func96,Tryd.ntmps96;go_wp2;go_ret;exact⟨by simp[btw,h1,h2],rfl⟩
theorem Zz (a b lo hi:Int) (w:wD):cF tP 6 #[.agg #[iN qi a,iN qi b],iN qi lo,iN qi hi] w fun e w'=>e= rT (.bool (decide (a<=b)&&decide (lo<=a)&&decide (b<=hi)))/\bX w.heap.size w w':=by
 by_cases h1:a<=b<;>by_cases h2:lo<=a<;>by_cases h3:b<=hi
 all_goals
  go_enter Tryd.func6,Tryd.ntmps6;go_wp2;go_ret;exact⟨by simp[h1,h2,h3],(bR _ _).alloc (nR _) _⟩
theorem c99 (a b:Int) (w:wD):cF tP 83 #[.agg #[iN qi a,iN qi b]] w fun e w'=>e= rT (.bool (dw (a,b)))/\bX w.heap.size w w':=by
 have HH:=lH (show (decide (a<=b)&&decide (0<=a)&&decide (b<=5))=dw (a,b) by
  unfold dw;by_cases h1:a<=b<;>by_cases h2:0<=a<;>by_cases h3:b<=5<;>simp[h1,h2,h3])
 go_enter Tryd.func83,Tryd.ntmps83
 go_wp2_with fail
 refine(Zz a b 0 5 _).mono ?_;rintro e w1 ⟨rfl,hb1⟩;rw[HH.out];go_wp2;go_ret;exact⟨rfl,((bR _ _).alloc (nR _) _).trans (hb1.mono (by simp))⟩
def byteAt (s:ByteArray) (k:Nat):Int:=((s.data.toList[k]?).map fun c=>(c.toNat:Int)).getD 0
def kX (s:ByteArray) (k:Nat):Bool:=btw (byteAt s k) 97 122||(decide (k≠0)&&btw (byteAt s k) 48 57)
theorem EI {s:ByteArray} {k:Nat} (h:k<s.size):(s[k].toNat:Int)=byteAt s k:=by
 unfold byteAt;have h':k<s.data.toList.length:=by simpa using h
 rw[lG h'];rfl
theorem ZA {s:ByteArray} (h: ∀j,j<s.size->kX s j=true):gB s=btw s.size 1 9:=by
 unfold gB
 cases h1:btw (s.size:Int) 1 9 with
 |false=>rfl
 |true=>
  have h0:0<s.size:=by have:=fK h1;omega
  have e0:((s.data.toList.headD 0).toNat:Int)=byteAt s 0:=by rw[Cc h0];exact EI h0
  have k0:=h 0 h0;rw[e0];have k1:btw (byteAt s 0) 97 122=true:=by simpa[kX] using k0
  rw[k1];have k2:badByte s=false:=by
   unfold badByte;rw[List.any_eq_false];intro c hc;obtain⟨j,hj,rfl⟩:=List.getElem_of_mem hc;have hj':j<s.size:=by simpa using hj
   have k3:=h j hj';have e3:byteAt s j=((s.data.toList[j]).toNat:Int):=by unfold byteAt;rw[lG hj];rfl
   unfold kX at k3;rw[e3] at k3;unfold nX
   cases e1:btw ((s.data.toList[j]).toNat:Int) 97 122 with
   |true=>simp
   |false=>
    rw[e1] at k3;simp at k3;simp[k3.2]
  rw[k2];rfl
theorem ZB {s:ByteArray} {k:Nat} (hk:k<s.size) (h:kX s k=false):gB s=false:=by
 unfold gB;have hk':k<s.data.toList.length:=by simpa using hk
 have e3:byteAt s k=((s.data.toList[k]).toNat:Int):=by unfold byteAt;rw[lG hk'];rfl
 by_cases h0:k=0
 ·subst h0;have e0:((s.data.toList.headD 0).toNat:Int)=byteAt s 0:=by rw[Cc hk];exact EI hk
  rw[e0];have:btw (byteAt s 0) 97 122=false:=by simpa[kX] using h
  rw[this];simp
 ·have hb:badByte s=true:=by
   unfold badByte;rw[List.any_eq_true];refine⟨_,List.getElem_mem hk', ?_⟩;unfold kX at h;rw[e3] at h;unfold nX;simp[h0] at h;simp[h.1,h.2]
  rw[hb];simp
theorem c95 (s:ByteArray) (hs:s.size<=1000000) (w:wD):cF tP 79 #[.string s] w fun e w'=>e= rT (.bool (gB s))/\w=w':=by
 go_enter Tryd.func79,Tryd.ntmps79
 go_wp2_with fail
 go_loopw [3] (fun i wr=> ∃k:Nat,k<=s.size/\i= iN qi (k:Int)/\w=wr/\ ∀j,j<k->kX s j=true) (fun i _=>s.size-(intOf i).toNat)
 case atStart=>exact⟨0,Nat.zero_le _,rfl,rfl,fun j hj=>by omega⟩
 case round=>
  obtain⟨k,hk,rfl,rfl,hok⟩:=hrel;have Hok:=lH hok;clear hok;by_cases hlt:k<s.size
  ·have hbt:=EI hlt;have hbad:=lH (ZB hlt);have hokk:kX s k=(btw (byteAt s k) 97 122||(decide (k≠0)&&btw (byteAt s k) 48 57)):=rfl;have Hokk:=lH hokk;clear hokk;generalize byteAt s k=c at *
   cases h1:btw c 97 122 with
   |true=>
    have HN:Hid (∀j,j<k+1->kX s j=true):=lH fun j hj=>by
     by_cases e:j=k
     ·subst e;rw[Hokk.out,h1];rfl
     ·exact Hok.out j (by omega)
    go_wp2_with (first | (go_at_call 95;refine(c116 _ _).mono ?_;rintro e w1 ⟨rfl,rfl⟩) | (go_at_call 96;refine(c117 _ _).mono ?_;rintro e w1 ⟨rfl,rfl⟩))
    go_roundw
    case rel=>exact⟨k+1,by omega,by go_num,trivial,HN.out⟩
    case measure=>simp[intOf];omega
   |false=>
    by_cases h0:k=0
    ·have HF:Hid (gB s=false):=lH (hbad.out (by rw[Hokk.out,h1,h0];rfl));have hk0:((k:Int)==0)=true:=by simpa using h0
     have H0:=lH h0;clear h0
     go_wp2_with (first | (go_at_call 95;refine(c116 _ _).mono ?_;rintro e w1 ⟨rfl,rfl⟩) | (go_at_call 96;refine(c117 _ _).mono ?_;rintro e w1 ⟨rfl,rfl⟩))
     go_ret;exact⟨by rw[HF.out]<;>rfl,rfl⟩
    ·have hk0:((k:Int)==0)=false:=by simpa using h0
     cases h2:btw c 48 57 with
     |true=>
      have HN:Hid (∀j,j<k+1->kX s j=true):=lH fun j hj=>by
       by_cases e:j=k
       ·subst e;rw[Hokk.out,h1,h2];simp[h0]
       ·exact Hok.out j (by omega)
      have H0:=lH h0;clear h0
      go_wp2_with (first | (go_at_call 95;refine(c116 _ _).mono ?_;rintro e w1 ⟨rfl,rfl⟩) | (go_at_call 96;refine(c117 _ _).mono ?_;rintro e w1 ⟨rfl,rfl⟩))
      go_roundw
      case rel=>exact⟨k+1,by omega,by go_num,trivial,HN.out⟩
      case measure=>simp[intOf];omega
     |false=>
      have HF:Hid (gB s=false):=lH (hbad.out (by rw[Hokk.out,h1,h2];simp));have H0:=lH h0;clear h0
      go_wp2_with (first | (go_at_call 95;refine(c116 _ _).mono ?_;rintro e w1 ⟨rfl,rfl⟩) | (go_at_call 96;refine(c117 _ _).mono ?_;rintro e w1 ⟨rfl,rfl⟩))
      go_ret;exact⟨by rw[HF.out]<;>rfl,rfl⟩
  ·have HF:Hid (gB s=btw s.size 1 9):=lH (ZA fun j hj=>Hok.out j (by omega))
   go_wp2_with (go_at_call 59;refine(gU _ _ _ _).mono ?_;rintro e w1 ⟨rfl,rfl⟩)
   go_ret;exact⟨by rw[HF.out]<;>rfl,rfl⟩
theorem c96 (t:ByteArray) (sa:Option aD) (xs:List ByteArray) (cap:Nat) (w:wD) (hs:SlS w sa xs) (hl:xs.length<=1000000):
  cF tP 80 #[sL sa xs.length cap,.string t] w fun e w'=>e= rT (iN qi (firstAt (fun x=>t.toList==x.toList) xs 0))/\w=w':=by
 have Hs:=lH hs;clear hs;go_enter Tryd.func80,Tryd.ntmps80
 go_wp2_with fail
 go_loop [5] (fun i=> ∃k:Nat,k<=xs.length/\i= iN qi (k:Int)/\firstAt (fun x=>t.toList==x.toList) xs 0=firstAt (fun x=>t.toList==x.toList) (xs.drop k) k) (fun i=>xs.length-(intOf i).toNat)
 case atStart=>exact⟨0,Nat.zero_le _,rfl,rfl⟩
 case round=>
  obtain⟨k,hk,rfl,hfk⟩:=hrel;have Hfk:=lH hfk;clear hfk;by_cases hlt:k<xs.length
  ·have hx:xs[k]? =some xs[k]:=lG hlt;obtain⟨b,o,rfl,g0⟩:=Hs.out k _ hx;generalize xs[k]=x at *;have Hx:=lH hx;clear hx;have hsym:(x.toList==t.toList)=(t.toList==x.toList):=by rw[Bool.eq_iff_iff,beq_iff_eq,beq_iff_eq];exact eq_comm
   cases hpx:(t.toList==x.toList) with
   |true=>
    rw[hpx] at hsym;have HP:=lH hpx;clear hpx
    go_wp2_with fail
    go_ret;exact⟨by rw[Hfk.out,pG Hx.out HP.out];rfl,rfl⟩
   |false=>
    rw[hpx] at hsym;have HP:=lH hpx;clear hpx
    go_wp2_with fail
    go_round
    case rel=>exact⟨k+1,by omega,by go_num,by rw[Hfk.out,pI Hx.out HP.out]⟩
    case measure=>simp[intOf];omega
  ·have hke:xs.length<=k:=by omega
   go_wp2;go_ret;exact⟨by rw[Hfk.out,pK hke];rfl,rfl⟩
def oN (nt a b:Int):Int:=if btw a 0 (nt-1)=false\/btw b 0 (nt-1)=false then 6 else 0
theorem c97 (h:Int) (ta:Option aD) (nt tc:Nat) (la:Option aD) (ln lc:Nat) (pa:Option aD) (pn pc:Nat) (a b:Int) (w:wD) (hnt:nt<=1000000):
  cF tP 81 #[.agg #[iN qi h,sL ta nt tc,sL la ln lc,sL pa pn pc],iN qi a,iN qi b] w fun e w'=>e= rT (iN qi (oN nt a b))/\bX w.heap.size w w':=by
 cases h1:btw a 0 ((nt:Int)-1)<;>cases h2:btw b 0 ((nt:Int)-1)
 all_goals
  have HH:=lH (show oN nt a b=_ from by unfold oN;rw[h1,h2]);go_enter Tryd.func81,Tryd.ntmps81
  go_wp2_with (go_at_call 59;refine(gU _ _ _ _).mono ?_;rintro e w' ⟨rfl,rfl⟩)
  go_ret;exact⟨by rw[HH.out]<;>rfl,(bR _ _).alloc (nR _) _⟩
theorem c98 (l:List (Int×Int)) (sa:Option aD) (c:Nat) (w:wD) (hs:SlB w sa l) (hl:l.length<=1000000):
  cF tP 82 #[sL sa l.length c] w fun e w'=>e= rT (iN qi (bJ l))/\bX w.heap.size w w':=by
 have Hs:=lH hs;clear hs
 cases h1:btw (l.length:Int) 1 3 with
 |false=>
  have HH:=lH (show bJ l=2 by unfold bJ;rw[h1];rfl);go_enter Tryd.func82,Tryd.ntmps82
  go_wp2_with (go_at_call 59;refine(gU _ _ _ _).mono ?_;rintro e w' ⟨rfl,rfl⟩)
  go_ret;exact⟨by rw[HH.out]<;>rfl,bR _ _⟩
 |true=>
  have HH:=lH (show bJ l=bY 0 0 l by unfold bJ;rw[h1];rfl);go_enter Tryd.func82,Tryd.ntmps82
  go_wp2_with (go_at_call 59;refine(gU _ _ _ _).mono ?_;rintro e w' ⟨rfl,rfl⟩)
  go_loopw [3] (fun i wr=> ∃k:Nat,k<=l.length/\i= iN qi (k:Int)/\bY 0 0 l=bY (fE l k) k (l.drop k)/\ ∃n,wr=w.drewN n) (fun i _=>l.length-(intOf i).toNat)
  case atStart=>exact⟨0,Nat.zero_le _,rfl,rfl,0,rfl⟩
  case round=>
   obtain⟨k,hk,rfl,hfk,n,rfl⟩:=hrel;have Hfk:=lH hfk;clear hfk;by_cases hlt:k<l.length
   ·have hx:l[k]? =some l[k]:=lG hlt;obtain⟨b,o,rfl,g0,g1⟩:=Hs.out k _ hx;have hat:=Gt hx;generalize l[k]=x at *;obtain⟨x,y⟩:=x;simp only at g0 g1 hat;have Hat:=lH hat;have Hx:=lH hx;clear hat hx;have Hgo:Hid (¬(20<x\/btw y 0 99=false)-> ¬((k=0/\x≠1)\/x<=fE l k)->bY 0 0 l=bY (fE l (k+1)) (k+1) (l.drop (k+1))):=lH fun a b=>by rw[Hfk.out,Hat.out,if_neg b,if_neg a]
    have Hlim:Hid ((20<x\/btw y 0 99=false)-> ¬((k=0/\x≠1)\/x<=fE l k)->bJ l=1):=lH fun a b=>by rw[HH.out,Hfk.out,Hat.out,if_neg b,if_pos a]
    have Hord:Hid (((k=0/\x≠1)\/x<=fE l k)->bJ l=7):=lH fun b=>by rw[HH.out,Hfk.out,Hat.out,if_pos b]
    by_cases hk0:k=0
    ·subst hk0;simp only[Nat.zero_mul,Nat.add_zero] at g0 g1;by_cases hx1:x=1
     ·subst hx1;have HN:Hid (¬(((0 :Nat)=0/\(1 :Int)≠1)\/(1 :Int)<=fE l 0)):=lH (by simp[fE])
      cases hby:btw y 0 99 with
      |false=>
       have HF:=lH (Hlim.out (.inr hby) HN.out)
       go_wp2_with fail
       go_quiet (fail)
       go_wp2_with (go_at_call 59;refine(gU _ _ _ _).mono ?_;rintro e w' ⟨rfl,rfl⟩)
       go_ret;exact⟨by rw[HF.out]<;>rfl,by first |exact aV (bR _ _) _ |exact aV (aV (bR _ _) _) _⟩
      |true=>
       have HF:=lH (Hgo.out (by rw[hby];simp) HN.out)
       go_wp2_with fail
       go_quiet (fail)
       go_wp2_with (go_at_call 59;refine(gU _ _ _ _).mono ?_;rintro e w' ⟨rfl,rfl⟩)
       exact⟨⟨0+1,by omega,rfl,HF.out,n+nq,rfl⟩,by simp[intOf];omega⟩
     ·have HF:=lH (Hord.out (.inl ⟨rfl,hx1⟩));have hxb:(x != 1)=true:=by simpa using hx1
      clear hx1
      go_wp2_with fail
      go_quiet (fail)
      go_wp2;go_ret;exact⟨by rw[HF.out]<;>rfl,by first |exact aV (bR _ _) _ |exact aV (aV (bR _ _) _) _⟩
    ·obtain⟨m,hm⟩: ∃m,m=k-1:=⟨_,rfl⟩;have hy:l[m]? =some l[m]:=lG (by omega);obtain⟨b',o',e',d0,d1⟩:=Hs.out m _ hy;clear d1
     cases e'
     have hla:fE l k=(l[m]).1:=by
      obtain⟨j,rfl⟩: ∃j,k=j+1:=⟨k-1,by omega⟩;obtain rfl:m=j:=by omega
      show ((l[m]?).map (·.1)).getD 0=_
      rw[hy];rfl
     rw[<-hla] at d0;clear hla hy;generalize fE l k=la at *;have hk1:IntKind.wrap qi ((k:Int)-1)=(m:Int):=by rw[show (k:Int)-1=(m:Int) by omega];exact IntWalk.i64_in _ (by omega)
     have hk2:((k:Int)==0)=false:=by simp;omega
     have hk3:(0 :Int)<(k:Int):=by omega
     have hk4:(0 :Int)<=(m:Int):=by omega
     have hk7:0<k:=by omega
     have hk5:(m:Int)<(l.length:Int):=by omega
     have hk6:(k:Int)<(l.length:Int):=by omega
     have Hk:=lH (And.intro hk0 (And.intro hm hlt));clear hm hk0 hlt hk;by_cases hxl:x<=la
     ·have HF:=lH (Hord.out (.inr hxl))
      go_wp2_with fail
      go_quiet (fail)
      go_wp2;go_ret;exact⟨by rw[HF.out]<;>rfl,by first |exact aV (bR _ _) _ |exact aV (aV (bR _ _) _) _⟩
     ·have HN:Hid (¬((k=0/\x≠1)\/x<=la)):=lH (by have:=Hk.out;omega);by_cases h20:20<x
      ·have HF:=lH (Hlim.out (.inl h20) HN.out)
       go_wp2_with fail
       go_quiet (fail)
       go_wp2_with (go_at_call 59;refine(gU _ _ _ _).mono ?_;rintro e w' ⟨rfl,rfl⟩)
       go_ret;exact⟨by rw[HF.out]<;>rfl,by first |exact aV (bR _ _) _ |exact aV (aV (bR _ _) _) _⟩
      ·cases hby:btw y 0 99 with
       |false=>
        have HF:=lH (Hlim.out (.inr hby) HN.out)
        go_wp2_with fail
        go_quiet (fail)
        go_wp2_with (go_at_call 59;refine(gU _ _ _ _).mono ?_;rintro e w' ⟨rfl,rfl⟩)
        go_ret;exact⟨by rw[HF.out]<;>rfl,by first |exact aV (bR _ _) _ |exact aV (aV (bR _ _) _) _⟩
       |true=>
        have HF:=lH (Hgo.out (by rw[hby];simp;omega) HN.out)
        go_wp2_with fail
        go_quiet (fail)
        go_wp2_with (go_at_call 59;refine(gU _ _ _ _).mono ?_;rintro e w' ⟨rfl,rfl⟩)
        have hlt:=Hk.out.2.2;exact⟨⟨k+1,by omega,rfl,HF.out,n+nq,rfl⟩,by simp[intOf];omega⟩
   ·have hke:l.length<=k:=by omega
    go_wp2;go_ret;exact⟨by rw[HH.out,Hfk.out,Gu hke];rfl,aV (bR _ _) _⟩
end Go.Proofs.YtfiiffnbggnkfaaDoor
