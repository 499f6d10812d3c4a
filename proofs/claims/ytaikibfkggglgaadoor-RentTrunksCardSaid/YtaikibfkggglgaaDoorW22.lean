/- A part of the proof of a law; no conditions of its own. -/
import Derived.Test.YtaikibfkggglgaaDoorW21
import Derived.Deep.RegionWith
set_option maxRecDepth 100000
open Go renaming undef→ud
open Nat renaming le_refl→nR
open Go.Lib renaming hid→lH
open Go.Proofs.Tryd renaming prog→tP
open List renaming getElem?_eq_getElem→lG
open Go.World renaming cell?_setCell_other→wO
open Go.World renaming cell?_setCell_far→wF
set_option maxHeartbeats 4000000
namespace Go.Proofs.YtaikibfkggglgaaDoor
open Go.RowKit Go.Rent Go.Tp Go.Conc
def tri:List (Int×Int×Value)->List Value
 | []=> []
 |x::l=> .int .i64 x.1:: .int .i64 x.2.1::x.2.2::tri l
theorem ES: ∀l,(tri l).length=l.length*3
 | []=>rfl
 |x::l=>by simp[tri,ES l];omega
theorem ET: ∀(l:List (Int×Int×Value)) (i:Nat) (x:Int×Int×Value),l[i]? =some x->(tri l)[i*3]? =some (.int .i64 x.1)/\(tri l)[i*3+1]? =some (.int .i64 x.2.1)/\(tri l)[i*3+2]? =some x.2.2
 | [],i,x,h=>by simp at h
 |y::l,0,x,h=>by
  simp only[List.getElem?_cons_zero,Option.some.injEq] at h;subst h;simp[tri]
 |y::l,i+1,x,h=>by
  have:=ET l i x (by simpa using h);have e0:(i+1)*3=i*3+1+1+1:=by omega
  simp only[tri,e0,List.getElem?_cons_succ];exact this
theorem EU: ∀(l:List (Int×Int×Value)) (j:Nat) (u:Value),(tri l)[j]? =some u-> ∃i x,l[i]? =some x/\((j=i*3/\u= .int .i64 x.1)\/(j=i*3+1/\u= .int .i64 x.2.1)\/(j=i*3+2/\u=x.2.2))
 | [],j,u,h=>by simp[tri] at h
 |y::l,0,u,h=>by simp[tri] at h;exact⟨0,y,rfl,.inl ⟨rfl,h.symm⟩⟩
 |y::l,1,u,h=>by simp[tri] at h;exact⟨0,y,rfl,.inr (.inl ⟨rfl,h.symm⟩)⟩
 |y::l,2,u,h=>by simp[tri] at h;exact⟨0,y,rfl,.inr (.inr ⟨rfl,h.symm⟩)⟩
 |y::l,j+3,u,h=>by
  simp only[tri,List.getElem?_cons_succ] at h;obtain⟨i,x,hi,hh⟩:=EU l j u h;refine⟨i+1,x,by simpa using hi, ?_⟩
  rcases hh with ⟨e,h⟩ |⟨e,h⟩ |⟨e,h⟩
  ·exact .inl ⟨by omega,h⟩
  ·exact .inr (.inl ⟨by omega,h⟩)
  ·exact .inr (.inr ⟨by omega,h⟩)
def duo:List (Int×Int)->List Value
 | []=> []
 |x::l=> .int .i64 x.1:: .int .i64 x.2::duo l
theorem EW: ∀l,(duo l).length=l.length*2
 | []=>rfl
 |x::l=>by simp[duo,EW l];omega
theorem oV: ∀(l:List (Int×Int)) (i:Nat) (x:Int×Int),l[i]? =some x->(duo l)[i*2]? =some (.int .i64 x.1)/\(duo l)[i*2+1]? =some (.int .i64 x.2)
 | [],i,x,h=>by simp at h
 |y::l,0,x,h=>by
  simp only[List.getElem?_cons_zero,Option.some.injEq] at h;subst h;simp[duo]
 |y::l,i+1,x,h=>by
  have:=oV l i x (by simpa using h);have e0:(i+1)*2=i*2+1+1:=by omega
  simp only[duo,e0,List.getElem?_cons_succ];exact this
theorem Nw: ∀(l:List (Int×Int)) (j:Nat) (u:Value),(duo l)[j]? =some u-> ∃i x,l[i]? =some x/\((j=i*2/\u= .int .i64 x.1)\/(j=i*2+1/\u= .int .i64 x.2))
 | [],j,u,h=>by simp[duo] at h
 |y::l,0,u,h=>by simp[duo] at h;exact⟨0,y,rfl,.inl ⟨rfl,h.symm⟩⟩
 |y::l,1,u,h=>by simp[duo] at h;exact⟨0,y,rfl,.inr ⟨rfl,h.symm⟩⟩
 |y::l,j+2,u,h=>by
  simp only[duo,List.getElem?_cons_succ] at h;obtain⟨i,x,hi,hh⟩:=Nw l j u h;refine⟨i+1,x,by simpa using hi, ?_⟩
  rcases hh with ⟨e,h⟩ |⟨e,h⟩
  ·exact .inl ⟨by omega,h⟩
  ·exact .inr ⟨by omega,h⟩
theorem EX: ∀(l:List (Int×Int)),∀u∈duo l,u.oneCell'=true
 | [],u,h=>by cases h
 |x::l,u,h=>by
  simp only[duo,List.mem_cons] at h
  rcases h with rfl |rfl |h
  ·rfl
  ·rfl
  ·exact EX l u h
theorem EY: ∀(l:List (Int×Int×Value)),(∀x∈l,x.2.2.oneCell'=true)-> ∀u∈tri l,u.oneCell'=true
 | [],_,u,h=>by cases h
 |x::l,hl,u,h=>by
  simp only[tri,List.mem_cons] at h
  rcases h with rfl |rfl |rfl |h
  ·rfl
  ·rfl
  ·exact hl x (by simp)
  ·exact EY l (fun y hy=>hl y (by simp[hy])) u h
theorem BH (b o j:Nat):(⟨b,o,none⟩:Addr).add j=⟨b,o+j,none⟩:=by
 by_cases h:j=0
 ·subst h;simp[Addr.add]
 ·simp[Addr.add,h]
theorem Ny {w:World} {sa:Option Addr} {l:List (Int×Int)} (h:SlB w sa l): ∀ad,sa=some ad-> ∀(j:Nat) (u:Value),(duo l)[j]? =some u->w.cell? (ad.add j)=some u:=fun ad e j u hu=>by
 obtain⟨i,x,hi,hh⟩:=Nw l j u hu;obtain⟨b,o,e2,h0,h1⟩:=h i x hi;rw[e] at e2
 cases e2
 rw[BH]
 rcases hh with ⟨rfl,rfl⟩ |⟨rfl,rfl⟩
 ·exact h0
 ·rw[<-Nat.add_assoc];exact h1
theorem aao (l:List (Int×Int)) (sa:Option Addr) (sc:Nat) (w:World) (h:SlB w sa l) (h1:1<=l.length) (h2:l.length<=1000000):
  Calls tP 114 #[.slice sa l.length sc] w fun e w'=> ∃g cap,e= .returned (.slice (some ⟨g,0,none⟩) l.length cap)/\w.heap.size<=g/\g<w'.heap.size/\(∀(k:Nat) (x:Int×Int),l[k]? =some x->w'.cell? ⟨g,k*2,none⟩=some (.int .i64 x.1)/\w'.cell? ⟨g,k*2+1,none⟩=some (.int .i64 x.2))/\(∀j,w'.frozen? ⟨g,j,none⟩=false)/\Below w.heap.size w w':=by
 refine(Zu (duo l) l.length sa sc w (EW l) h2 (fun e=> ?_) (Ny h) (EX l)).mono ?_
 ·obtain⟨b,o,e2,_⟩:=h 0 _ (lG (by omega));rw[e] at e2;cases e2
 ·rintro e w' ⟨v,rfl,hown,hb⟩;obtain⟨g,cap,rfl,g1,g2,g3,g4,g5,g6⟩:=ru hown h1;exact⟨g,cap,rfl,g1,g2,fun k x hx=>⟨g3 _ _ (oV l k x hx).1,g3 _ _ (oV l k x hx).2⟩,g4,hb⟩
theorem aap (l:List (Int×Int)) (sa:Option Addr) (sc:Nat) (w:World) (h:SlB w sa l) (h1:1<=l.length) (h2:l.length<=1000000):
  Calls tP 115 #[.slice sa l.length sc] w fun e w'=> ∃g cap,e= .returned (.slice (some ⟨g,0,none⟩) l.length cap)/\w.heap.size<=g/\g<w'.heap.size/\(∀(k:Nat) (x:Int×Int),l[k]? =some x->w'.cell? ⟨g,k*2,none⟩=some (.int .i64 x.1)/\w'.cell? ⟨g,k*2+1,none⟩=some (.int .i64 x.2))/\(∀j,w'.frozen? ⟨g,j,none⟩=false)/\Below w.heap.size w w':=by
 refine(Zv (duo l) l.length sa sc w (EW l) h2 (fun e=> ?_) (Ny h) (EX l)).mono ?_
 ·obtain⟨b,o,e2,_⟩:=h 0 _ (lG (by omega));rw[e] at e2;cases e2
 ·rintro e w' ⟨v,rfl,hown,hb⟩;obtain⟨g,cap,rfl,g1,g2,g3,g4,g5,g6⟩:=ru hown h1;exact⟨g,cap,rfl,g1,g2,fun k x hx=>⟨g3 _ _ (oV l k x hx).1,g3 _ _ (oV l k x hx).2⟩,g4,hb⟩
theorem aaq (l:List ByteArray) (sa:Option Addr) (sc:Nat) (w:World) (h:SlS w sa l) (h1:1<=l.length) (h2:l.length<=1000000):
  Calls tP 111 #[.slice sa l.length sc] w fun e w'=> ∃g cap,e= .returned (.slice (some ⟨g,0,none⟩) l.length cap)/\(w.heap.size<=g/\g<w'.heap.size/\(∀(k:Nat) (x:ByteArray),l[k]? =some x->w'.cell? ⟨g,k,none⟩=some (.string x))/\l.length<=cap/\cap<=maxLen)/\Below w.heap.size w w':=by
 refine(Zn (l.map .string) l.length sa sc w (by simp) h2 (fun e=> ?_) (fun ad e j u hu=> ?_) (fun u hu=> ?_)).mono ?_
 ·obtain⟨b,o,e2,_⟩:=h 0 _ (lG (by omega));rw[e] at e2;cases e2
 ·rw[List.getElem?_map] at hu
  cases hx:l[j]? with
  |none=>rw[hx] at hu;cases hu
  |some x=>
   rw[hx] at hu
   cases hu
   obtain⟨b,o,e2,h0⟩:=h j x hx;rw[e] at e2
   cases e2
   rw[BH];exact h0
 ·obtain⟨x,_,rfl⟩:=List.mem_map.1 hu;rfl
 ·rintro e w' ⟨v,rfl,hown,hb⟩;obtain⟨g,cap,rfl,g1,g2,g3,g4,g5,g6⟩:=ru hown h1;exact⟨g,cap,rfl,⟨g1,g2,fun k x hx=>g3 k _ (by rw[List.getElem?_map,hx];rfl),g5,g6⟩,hb⟩
theorem aar {w:World} {la:Option Addr} {ls:List Lnk} (h:jr w la ls): ∃(oa:Nat->Option Addr) (oc:Nat->Nat),∀(i:Nat) (L:Lnk),ls[i]? =some L->(∃b o,la=some ⟨b,o,none⟩/\w.cell? ⟨b,o+i*3,none⟩=some (.int .i64 L.one)/\w.cell? ⟨b,o+i*3+1,none⟩=some (.int .i64 L.two)/\w.cell? ⟨b,o+i*3+2,none⟩=some (.slice (oa i) L.steps.length (oc i)))/\SlB w (oa i) L.steps/\L.steps.length<=1000000:=by
 have key: ∀i:Nat,∃(a:Option Addr) (c:Nat),∀(L:Lnk),ls[i]? =some L->(∃b o,la=some ⟨b,o,none⟩/\w.cell? ⟨b,o+i*3,none⟩=some (.int .i64 L.one)/\w.cell? ⟨b,o+i*3+1,none⟩=some (.int .i64 L.two)/\w.cell? ⟨b,o+i*3+2,none⟩=some (.slice a L.steps.length c))/\SlB w a L.steps/\L.steps.length<=1000000:=fun i=>by
  cases e:ls[i]? with
  |none=>exact⟨none,0,fun L h=>by cases h⟩
  |some L=>
   obtain⟨b,o,sa,sc,h1,h2,h3,h4,h5,h6⟩:=h i L e;exact⟨sa,sc,fun L' h'=>by cases h';exact⟨⟨b,o,h1,h2,h3,h4⟩,h5,h6⟩⟩
 exact⟨fun i=>Classical.choose (key i),fun i=>Classical.choose (Classical.choose_spec (key i)),fun i=>Classical.choose_spec (Classical.choose_spec (key i))⟩
theorem aas {w:World} {la:Option Addr} {ls:List Pr} (h:jv w la ls): ∃(oa:Nat->Option Addr) (oc:Nat->Nat),∀(i:Nat) (L:Pr),ls[i]? =some L->(∃b o,la=some ⟨b,o,none⟩/\w.cell? ⟨b,o+i*3,none⟩=some (.int .i64 L.one)/\w.cell? ⟨b,o+i*3+1,none⟩=some (.int .i64 L.two)/\w.cell? ⟨b,o+i*3+2,none⟩=some (.slice (oa i) L.calls.length (oc i)))/\SlB w (oa i) L.calls/\L.calls.length<=1000000:=by
 have key: ∀i:Nat,∃(a:Option Addr) (c:Nat),∀(L:Pr),ls[i]? =some L->(∃b o,la=some ⟨b,o,none⟩/\w.cell? ⟨b,o+i*3,none⟩=some (.int .i64 L.one)/\w.cell? ⟨b,o+i*3+1,none⟩=some (.int .i64 L.two)/\w.cell? ⟨b,o+i*3+2,none⟩=some (.slice a L.calls.length c))/\SlB w a L.calls/\L.calls.length<=1000000:=fun i=>by
  cases e:ls[i]? with
  |none=>exact⟨none,0,fun L h=>by cases h⟩
  |some L=>
   obtain⟨b,o,sa,sc,h1,h2,h3,h4,h5,h6⟩:=h i L e;exact⟨sa,sc,fun L' h'=>by cases h';exact⟨⟨b,o,h1,h2,h3,h4⟩,h5,h6⟩⟩
 exact⟨fun i=>Classical.choose (key i),fun i=>Classical.choose (Classical.choose_spec (key i)),fun i=>Classical.choose_spec (Classical.choose_spec (key i))⟩
def rC (ls:List Lnk) (oa:Nat->Option Addr) (oc:Nat->Nat):List (Int×Int×Value):=ls.mapIdx fun i L=>(L.one,L.two,.slice (oa i) L.steps.length (oc i))
def rD (ls:List Pr) (oa:Nat->Option Addr) (oc:Nat->Nat):List (Int×Int×Value):=ls.mapIdx fun i L=>(L.one,L.two,.slice (oa i) L.calls.length (oc i))
theorem aat (ls:List Lnk) (la:Option Addr) (lc:Nat) (w:World) (oa:Nat->Option Addr) (oc:Nat->Nat) (h: ∀(i:Nat) (L:Lnk),ls[i]? =some L->(∃b o,la=some ⟨b,o,none⟩/\w.cell? ⟨b,o+i*3,none⟩=some (.int .i64 L.one)/\w.cell? ⟨b,o+i*3+1,none⟩=some (.int .i64 L.two)/\w.cell? ⟨b,o+i*3+2,none⟩=some (.slice (oa i) L.steps.length (oc i)))) (h1:1<=ls.length) (h2:ls.length<=1000000):
  Calls tP 112 #[.slice la ls.length lc] w fun e w'=> ∃g cap,e= .returned (.slice (some ⟨g,0,none⟩) ls.length cap)/\(w.heap.size<=g/\g<w'.heap.size/\(∀(i:Nat) (L:Lnk),ls[i]? =some L->w'.cell? ⟨g,i*3,none⟩=some (.int .i64 L.one)/\w'.cell? ⟨g,i*3+1,none⟩=some (.int .i64 L.two)/\w'.cell? ⟨g,i*3+2,none⟩=some (.slice (oa i) L.steps.length (oc i)))/\ ∀j,w'.frozen? ⟨g,j,none⟩=false)/\Below w.heap.size w w':=by
 have hget: ∀(i:Nat) (L:Lnk),ls[i]? =some L->(rC ls oa oc)[i]? =some (L.one,L.two,.slice (oa i) L.steps.length (oc i)):=fun i L hi=>by unfold rC;rw[List.getElem?_mapIdx,hi];rfl
 have hinv: ∀(i:Nat) (x:Int×Int×Value),(rC ls oa oc)[i]? =some x-> ∃L,ls[i]? =some L/\x=(L.one,L.two,.slice (oa i) L.steps.length (oc i)):=fun i x hi=>by
  unfold rC at hi;rw[List.getElem?_mapIdx] at hi
  cases e:ls[i]? with
  |none=>rw[e] at hi;cases hi
  |some L=>rw[e] at hi;cases hi;exact⟨L,rfl,rfl⟩
 refine(Zp (tri (rC ls oa oc)) ls.length la lc w (by rw[ES];simp[rC]) h2 (fun e=> ?_) (fun ad e j u hu=> ?_) (EY _ fun x hx=> ?_)).mono ?_
 ·obtain⟨b,o,e2,_⟩:=h 0 _ (lG (by omega));rw[e] at e2;cases e2
 ·obtain⟨i,x,hi,hh⟩:=EU _ j u hu;obtain⟨L,hL,rfl⟩:=hinv i x hi;obtain⟨b,o,e2,k0,k1,k2⟩:=h i L hL;rw[e] at e2
  cases e2
  rw[BH]
  rcases hh with ⟨rfl,rfl⟩ |⟨rfl,rfl⟩ |⟨rfl,rfl⟩
  ·exact k0
  ·rw[<-Nat.add_assoc];exact k1
  ·rw[<-Nat.add_assoc];exact k2
 ·obtain⟨i,hi⟩:=List.getElem?_of_mem hx;obtain⟨L,_,rfl⟩:=hinv i x hi;rfl
 ·rintro e w' ⟨v,rfl,hown,hb⟩;obtain⟨g,cap,rfl,g1,g2,g3,g4,g5,g6⟩:=ru hown h1;refine⟨g,cap,rfl,⟨g1,g2,fun i L hL=> ?_,g4⟩,hb⟩;obtain⟨t0,t1,t2⟩:=ET _ i _ (hget i L hL);exact⟨g3 _ _ t0,g3 _ _ t1,g3 _ _ t2⟩
theorem aau (ls:List Pr) (la:Option Addr) (lc:Nat) (w:World) (oa:Nat->Option Addr) (oc:Nat->Nat) (h: ∀(i:Nat) (L:Pr),ls[i]? =some L->(∃b o,la=some ⟨b,o,none⟩/\w.cell? ⟨b,o+i*3,none⟩=some (.int .i64 L.one)/\w.cell? ⟨b,o+i*3+1,none⟩=some (.int .i64 L.two)/\w.cell? ⟨b,o+i*3+2,none⟩=some (.slice (oa i) L.calls.length (oc i)))) (hnil:la=none->lc=0) (h2:ls.length<=1000000):
  Calls tP 113 #[.slice la ls.length lc] w fun e w'=> ∃g a cap,e= .returned (.slice a ls.length cap)/\(w.heap.size<=g/\(1<=ls.length->a=some ⟨g,0,none⟩/\g<w'.heap.size)/\(a=none->cap=0)/\bG w' a/\(∀(i:Nat) (L:Pr),ls[i]? =some L->w'.cell? ⟨g,i*3,none⟩=some (.int .i64 L.one)/\w'.cell? ⟨g,i*3+1,none⟩=some (.int .i64 L.two)/\w'.cell? ⟨g,i*3+2,none⟩=some (.slice (oa i) L.calls.length (oc i)))/\(1<=ls.length-> ∀j,w'.frozen? ⟨g,j,none⟩=false)/\ ∀ad,a=some ad->w.heap.size<=ad.block)/\Below w.heap.size w w':=by
 have hget: ∀(i:Nat) (L:Pr),ls[i]? =some L->(rD ls oa oc)[i]? =some (L.one,L.two,.slice (oa i) L.calls.length (oc i)):=fun i L hi=>by unfold rD;rw[List.getElem?_mapIdx,hi];rfl
 have hinv: ∀(i:Nat) (x:Int×Int×Value),(rD ls oa oc)[i]? =some x-> ∃L,ls[i]? =some L/\x=(L.one,L.two,.slice (oa i) L.calls.length (oc i)):=fun i x hi=>by
  unfold rD at hi;rw[List.getElem?_mapIdx] at hi
  cases e:ls[i]? with
  |none=>rw[e] at hi;cases hi
  |some L=>rw[e] at hi;cases hi;exact⟨L,rfl,rfl⟩
 refine(Zr (tri (rD ls oa oc)) ls.length la lc w (by rw[ES];simp[rD]) h2 (fun e=> ?_) (fun ad e j u hu=> ?_) (EY _ fun x hx=> ?_)).mono ?_
 ·refine⟨?_,hnil e⟩
  cases hx:ls[0]? with
  |none=>exact List.length_eq_zero_iff.2 (by simpa using hx)
  |some L=>
   obtain⟨b,o,e2,_⟩:=h 0 L hx;rw[e] at e2;cases e2
 ·obtain⟨i,x,hi,hh⟩:=EU _ j u hu;obtain⟨L,hL,rfl⟩:=hinv i x hi;obtain⟨b,o,e2,k0,k1,k2⟩:=h i L hL;rw[e] at e2
  cases e2
  rw[BH]
  rcases hh with ⟨rfl,rfl⟩ |⟨rfl,rfl⟩ |⟨rfl,rfl⟩
  ·exact k0
  ·rw[<-Nat.add_assoc];exact k1
  ·rw[<-Nat.add_assoc];exact k2
 ·obtain⟨i,hi⟩:=List.getElem?_of_mem hx;obtain⟨L,_,rfl⟩:=hinv i x hi;rfl
 ·rintro e w' ⟨v,rfl,hown,hb⟩;by_cases h1:1<=ls.length
  ·have hown2:=hown;obtain⟨g,cap,rfl,g1,g2,g3,g4,g5,g6⟩:=ru hown h1;obtain⟨r1,r2⟩:=aan hown2;refine⟨g,_,cap,rfl,⟨g1,fun _=>⟨rfl,g2⟩,r2,r1,fun i L hL=> ?_,fun _=>g4,fun ad e=>by cases e;exact g1⟩,hb⟩;obtain⟨t0,t1,t2⟩:=ET _ i _ (hget i L hL);exact⟨g3 _ _ t0,g3 _ _ t1,g3 _ _ t2⟩
  ·have h0:ls.length=0:=by omega
   have hls:=List.length_eq_zero_iff.1 h0;subst hls;obtain⟨_,⟨rfl,_⟩ |⟨g,cap,cur,rfl,hg,hrow,_⟩⟩:=hown
   ·exact⟨w.heap.size,none,0,rfl,⟨nR _,fun h=>absurd h h1,fun _=>rfl,fun ad e=>(by cases e),fun i L hL=>(by simp at hL),fun h=>absurd h h1,fun ad e=>(by cases e)⟩,hb⟩
   ·exact⟨g,some ⟨g,0,none⟩,cap,rfl,⟨hg,fun h=>absurd h h1,fun e=>(by cases e),fun ad e=>(by cases e;exact⟨_,_,_,hrow⟩),fun i L hL=>(by simp at hL),fun h=>absurd h h1,fun ad e=>(by cases e;exact hg)⟩,hb⟩
def jS (B:Bk) (T:Nat->Int) (h k:Nat):List (Int×Int):=(List.range k).map fun j=>(B.inn T false h j,B.inn T true h j)
theorem aav (B:Bk) (T:Nat->Int) (h k:Nat):jS B T h (k+1)=jS B T h k++ [(B.inn T false h k,B.inn T true h k)]:=by simp[jS,List.range_succ]
theorem aaw (l:List (Int×Int)) (x:Int×Int):duo (l++ [x])=duo l++ [.int .i64 x.1,.int .i64 x.2]:=by
 induction l with
 |nil=>rfl
 |cons y l ih=>simp[duo,ih]
def aax (w:World) (B:Bk) (xs:List Int) (n:Int) (e:Ending) (w':World):Prop:=
 (aH B xs (bP B n)=0-> ∃g cap,e= .returned (.tuple #[.slice (some ⟨g,0,none⟩) B.links.length cap,.int .i64 0])/\SlB w' (some ⟨g,0,none⟩) (jS B (trk xs) n.toNat B.links.length)/\w.heap.size<=g)/\
 (aH B xs (bP B n)≠0->e= .returned (.tuple #[.slice none 0 0,.int .i64 (aH B xs (bP B n))]))/\Below w.heap.size w w'
theorem aay {w:World} {b:Nat} {x y:Int} (h0:w.cell? ⟨b,0,none⟩=some (.int .i64 x)) (h1:w.cell? ⟨b,1,none⟩=some (.int .i64 y)): ∀(j:Nat) (u:Value),([.int .i64 x,.int .i64 y]:List Value)[j]? =some u->w.cell? ((⟨b,0,none⟩:Addr).add j)=some u:=fun j u hu=>by
 match j,hu with
 | 0,hu=>cases hu;simpa[Addr.add] using h0
 | 1,hu=>cases hu;simpa[Addr.add] using h1
theorem aaz {B:Bk} {xs:List Int} {n:Int} (h:aH B xs (bP B n)=0):bP B n=true/\aH B xs true=0:=by
 cases e:bP B n with
 |true=>rw[e] at h;exact⟨rfl,h⟩
 |false=>
  rw[e] at h;unfold aH at h
  split at h
  ·split at h
   ·split at h
    ·cases h
    ·simp at h
   ·cases h
  ·contradiction
theorem aaA (V:BkV) (B:Bk) (xs:List Int) (tb tofs xc h:Nat) (w:World) (hs:aB w V B) (hv:Vars w) (hx:SlI w (some ⟨tb,tofs,none⟩) xs) (hxl:xs.length=B.links.length) (hG:Good B) (hT:bK w tb tofs B.links.length (trk xs)) (hh:(h:Int)<B.hours) (hok:aH B xs (bP B (h:Int))=0):
  Calls tP 16 #[V.val B,.slice (some ⟨tb,tofs,none⟩) B.links.length xc,.int .i64 (h:Int)] w fun e w'=> ∃g cap,e= .returned (.tuple #[.slice (some ⟨g,0,none⟩) B.links.length cap,.int .i64 0])/\SlB w' (some ⟨g,0,none⟩) (jS B (trk xs) h B.links.length)/\w.heap.size<=g/\Below w.heap.size w w':=by
 obtain⟨ta,la,pa,tc,lc,pc⟩:=V;have hl1:=hG.fine.links;have ht1:=hG.fine.towns;unfold Bk.spokes at hl1;have hres:bU ⟨ta,la,pa,tc,lc,pc⟩ B (aH B xs (bP B (h:Int)))= .tuple #[.agg #[.int .i64 B.hours,.slice ta B.towns.length tc,.slice la B.links.length lc,.slice pa B.pairs.length pc],.int .i64 0]:=by rw[hok];rfl
 have Hs:=lH hs;have Hv:=lH hv;have Hx:=lH hx;have HT:=lH hT;have HG:=lH hG;have Hxl:=lH hxl;have Hres:=lH hres;have Hh:=lH hh;clear hs hv hx hT hG hok hres hh hxl;go_enter Tryd.func16,Tryd.ntmps16
 go_wp2_with fail
 generalize hWd:w.alloc (.cells #[.int .i64 B.hours,.slice ta B.towns.length tc,.slice la B.links.length lc,.slice pa B.pairs.length pc] 26)=W;have HBW:Hid (Below w.heap.size w W):=lH (by subst hWd;exact(Below.refl _ _).alloc (nR _) _);have k0:W.cell? ⟨w.heap.size,0,none⟩=some (.int .i64 B.hours):=by subst hWd;go_simp
 have k1:W.cell? ⟨w.heap.size,1,none⟩=some (.slice ta B.towns.length tc):=by subst hWd;go_simp
 have k2:W.cell? ⟨w.heap.size,2,none⟩=some (.slice la B.links.length lc):=by subst hWd;go_simp
 have k3:W.cell? ⟨w.heap.size,3,none⟩=some (.slice pa B.pairs.length pc):=by subst hWd;go_simp
 clear hWd;have hr1:=Ns ta la pa tc lc pc B xs (some ⟨tb,tofs,none⟩) xc (h:Int) w W (BkV.val ⟨ta,la,pa,tc,lc,pc⟩ B) Hs.out Hv.out Hx.out (by rw[Hxl.out];omega) HBW k0 k1 k2 k3 B.hours ta la pa tc lc pc B.towns.length B.links.length B.pairs.length 0 Hres.out;unfold LdP at hr1;rw[Hxl.out] at hr1;refine Code.wp_mono ?_ hr1;clear hr1;rintro e a w' hq
 cases e with
 |normal=>
  obtain⟨b8,rfl,hb8,hbel,hrow⟩:=hq;have Hb8:=lH (And.intro hb8 (And.intro hbel hrow));have j2:=cell_below hbel k2 (nR _);have HBw':Hid (Below w.heap.size w w'):=lH (HBW.out.trans (hbel.mono HBW.out.size));clear k0 k1 k2 k3 hb8 hbel hrow
  go_wp2_with fail
  have hrow:=Hb8.out.2.2;refine Code.wp_mono ?_ (aal ⟨ta,la,pa,tc,lc,pc⟩ B HG.out.fine h tb tofs xc b8 (trk xs) w' (Hs.out.at.below HBw'.out (nR _)) (HT.out.below HBw'.out (nR _)) Hh.out
   _ _ _ _ _ _ _ _ _ _ _ _ _ _ _ _ _ _ _ hrow.c0 hrow.c1 hrow.c2 hrow.c3 (cell_below HBw'.out Hv.out.g0 (nR _)) (cell_below HBw'.out Hv.out.g1 (nR _)))
  rintro e a w2 hq2
  cases e with
  |normal=>
   obtain⟨b10,b11,rfl,hb2,hlo,hhi⟩:=hq2;have HB2:Hid (Below w.heap.size w w2):=lH (HBw'.out.trans (hb2.mono HBw'.out.size));have i2:=cell_below hb2 j2 (nR _);have HLo:=lH hlo;have HHi:=lH hhi;clear hb2 hlo hhi j2 hrow;obtain⟨i0,hi,hz0,hz1,hz2⟩:=info_parts MG
   go_wp2_with fail
   go_loopw [12,39] (fun v i wr=> ∃k:Nat,k<=B.links.length/\i= .int .i64 (k:Int)/\wr.ownsRow w2.heap.size 53 2 v k (duo (jS B (trk xs) h k))/\Below w2.heap.size w2 wr) (fun _ i _=>B.links.length-(intOf i).toNat)
   case atStart=>exact⟨0,Nat.zero_le _,rfl,World.ownsRow_nil _ _ _ _,Below.refl _ _⟩
   case round=>
    obtain⟨k,hk,rfl,hown,hb⟩:=hrel;have Hown:=lH hown;have Hb:=lH hb;clear hown hb;by_cases hlt:k<B.links.length
    ·have hk6:k<6:=by omega
     have q0:=cell_below Hb.out (HLo.out k hk6) (nR _);have q1:=cell_below Hb.out (HHi.out k hk6) (nR _);have hlt':(k:Int)<(B.links.length:Int):=by omega
     have hk6':(k:Int)<6:=by omega
     have hk0:(0 :Int)<=(k:Int):=Int.natCast_nonneg _;have hsn:=aaw (jS B (trk xs) h k) (B.inn (trk xs) false h k,B.inn (trk xs) true h k);rw[<-aav] at hsn;have Hsn:=lH hsn;have H0:=lH (HLo.out k hk6);have H00:=lH (HHi.out k hk6);clear hsn;simp only at Hsn;generalize B.inn (trk xs) false h k=lo at *;generalize B.inn (trk xs) true h k=up at *;have HA:Hid (((wr.alloc (.cells #[.int .i64 lo,.int .i64 up] 53)).drew).ownsRow w2.heap.size 53 2 u12 k (duo (jS B (trk xs) h k))):=lH (Hown.out.alloc _);have HBA:Hid (Below w2.heap.size w2 ((wr.alloc (.cells #[.int .i64 lo,.int .i64 up] 53)).drew)):=lH (Hb.out.alloc Hb.out.size _).drew;have HN:Hid (∀(j:Nat) (u:Value),([.int .i64 lo,.int .i64 up]:List Value)[j]? =some u->((wr.alloc (.cells #[.int .i64 lo,.int .i64 up] 53)).drew).cell? ((⟨wr.heap.size,0,none⟩:Addr).add j)=some u):=lH (aay (by go_simp) (by go_simp));have H1c:Hid (∀u∈([.int .i64 lo,.int .i64 up]:List Value),u.oneCell'=true):=lH (by simp[Value.oneCell']);have Hb63:Hid (k+1<=maxLen):=lH (by unfold maxLen;omega);have Hbb:Hid ((k+1)*16<=140737488355328):=lH (by omega);have HC:Hid (∀u:World,Below w2.heap.size w2 u->u.cell? ⟨b10,k,none⟩=some (.int .i64 lo)/\u.cell? ⟨b11,k,none⟩=some (.int .i64 up)):=lH fun u hu=>⟨cell_below hu H0.out (nR _),cell_below hu H00.out (nR _)⟩
     go_wp2_with fail
     go_region_held3 (fun w'=>w'.cell? ⟨b10,k,none⟩=some (.int .i64 lo)/\w'.cell? ⟨b11,k,none⟩=some (.int .i64 up))
      (first
       |exact⟨q0,q1⟩
       |exact HC.out _ HBA.out
       |exact HC.out _ hb3.out)
      (first
       | ((refine step_append_lies _ (by rfl) _ _ 30 (by rfl) w2.heap.size 53 i0 (.agg #[.int .i64 0,.int .i64 0]) 2 16 Tryd.underlying30 hi hz0 hz1 hz2 (by rfl) (by decide) u12 k (duo (jS B (trk xs) h k)) (by rfl) HA.out ⟨wr.heap.size,0,none⟩ 1 1 [.int .i64 lo,.int .i64 up] (by rfl) (by rfl) HN.out H1c.out (by decide) Hb63.out Hbb.out HBA.out.size _ rfl ?_);intro g2 cap2 w3 hown2 hgrow hat hltt;have hb3:Hid (Below w2.heap.size w2 w3):=lH (HBA.out.grown hgrow HBA.out.size (fun j hj=>(HA.out.lt j hj).1))))
     rw[<-Hsn.out] at hown2;go_wp2;go_roundw
     case rel=>exact⟨k+1,by omega,by go_num,hown2,hb3.out⟩
     case measure=>simp[intOf];omega
    ·have hke:k=B.links.length:=by omega
     subst hke;obtain⟨g,cap,e12,hg,_,hcell,_,_,_⟩:=ru Hown.out (by omega);subst e12;have HF:Hid (SlB wr (some ⟨g,0,none⟩) (jS B (trk xs) h B.links.length)/\w2.heap.size<=g/\Below w.heap.size w wr):=lH ⟨fun i x hi=>⟨g,0,rfl,by rw[Nat.zero_add];exact hcell _ _ (oV _ i x hi).1,by rw[Nat.zero_add];exact hcell _ _ (oV _ i x hi).2⟩,hg,HB2.out.trans (Hb.out.mono HB2.out.size)⟩;have Hz:=lH HB2.out.size;clear hcell hg;go_wp2;refine bodyPost_ret (v:= .tuple #[.slice (some ⟨g,0,none⟩) B.links.length cap,.int .i64 0]) (by simp[results,Tryd.results16,go_sem]) rfl ⟨g,cap,rfl,HF.out.1,Nat.le_trans Hz.out HF.out.2.1,HF.out.2.2⟩
  |_=>exact hq2.elim
 |_=>exact hq.elim
theorem aaB (V:BkV) (B:Bk) (xs:List Int) (xa:Option Addr) (xc:Nat) (n:Int) (w:World) (hs:aB w V B) (hv:Vars w) (hx:SlI w xa xs) (hxl:xs.length<=1000000) (hbad:aH B xs (bP B n)≠0):
  Calls tP 16 #[V.val B,.slice xa xs.length xc,.int .i64 n] w fun e w'=>e= .returned (.tuple #[.slice none 0 0,.int .i64 (aH B xs (bP B n))])/\Below w.heap.size w w':=by
 obtain⟨ta,la,pa,tc,lc,pc⟩:=V;have hres:=lC (V:=⟨ta,la,pa,tc,lc,pc⟩) (B:=B) hbad;have Hs:=lH hs;have Hv:=lH hv;have Hx:=lH hx;have Hres:=lH hres;have hne:(aH B xs (bP B n) != 0)=true:=by simpa using hbad
 clear hs hv hx hres hbad;go_enter Tryd.func16,Tryd.ntmps16
 go_wp2_with fail
 generalize hWd:w.alloc (.cells #[.int .i64 B.hours,.slice ta B.towns.length tc,.slice la B.links.length lc,.slice pa B.pairs.length pc] 26)=W;have HBW:Hid (Below w.heap.size w W):=lH (by subst hWd;exact(Below.refl _ _).alloc (nR _) _);have k0:W.cell? ⟨w.heap.size,0,none⟩=some (.int .i64 B.hours):=by subst hWd;go_simp
 have k1:W.cell? ⟨w.heap.size,1,none⟩=some (.slice ta B.towns.length tc):=by subst hWd;go_simp
 have k2:W.cell? ⟨w.heap.size,2,none⟩=some (.slice la B.links.length lc):=by subst hWd;go_simp
 have k3:W.cell? ⟨w.heap.size,3,none⟩=some (.slice pa B.pairs.length pc):=by subst hWd;go_simp
 clear hWd;refine Code.wp_mono ?_ (Ns ta la pa tc lc pc B xs xa xc n w W _ Hs.out Hv.out Hx.out hxl HBW k0 k1 k2 k3 0 none none none 0 0 0 0 0 0 _ Hres.out);rintro e a w' hq
 cases e with
 |normal=>
  obtain⟨b8,rfl,hb8,hbel,hrow⟩:=hq;have HBw':Hid (Below w.heap.size w w'):=lH (HBW.out.trans (hbel.mono HBW.out.size));clear k0 k1 k2 k3 hb8 hbel hrow;go_wp2;refine bodyPost_ret (v:= .tuple #[.slice none 0 0,.int .i64 (aH B xs (bP B n))]) (by simp[results,Tryd.results16,go_sem]) rfl ⟨rfl,HBw'.out⟩
 |_=>exact hq.elim
theorem c16 (V:BkV) (B:Bk) (xs:List Int) (xa:Option Addr) (xc:Nat) (n:Int) (w:World) (hs:aB w V B) (hv:Vars w) (hx:SlI w xa xs) (hxl:xs.length<=1000000):
  Calls tP 16 #[V.val B,.slice xa xs.length xc,.int .i64 n] w (aax w B xs n):=by
 by_cases hok:aH B xs (bP B n)=0
 ·obtain⟨ht,hr⟩:=aaz hok;obtain⟨h0,h1,h2⟩:=nN hr;have hG:=gY h0;have hl:=hG.fine.links;have ht1:=hG.fine.towns;have hh:=hG.fine.hours;unfold Bk.spokes at hl;obtain⟨tb,tofs,rfl,hT⟩:=tq hx h1 (by omega) h2;unfold bP at ht;rw[show RowKit.wrap64 (B.hours-1)=B.hours-1 from IntWalk.wrap64_in _ (by omega)] at ht;have hn:=fK ht;obtain⟨h,rfl⟩: ∃h:Nat,n=(h:Int):=⟨n.toNat,by omega⟩;rw[h1];refine(aaA V B xs tb tofs xc h w hs hv hx h1 hG hT (by omega) hok).mono ?_;rintro e w' ⟨g,cap,rfl,k1,k2,k3⟩;exact⟨fun _=>⟨g,cap,rfl,k1,k2⟩,fun hb=>absurd hok hb,k3⟩
 ·refine(aaB V B xs xa xc n w hs hv hx hxl hok).mono ?_;rintro e w' ⟨rfl,hb⟩;exact⟨fun h=>absurd h hok,fun _=>rfl,hb⟩
structure Bx (u:World) (s:Nat) (t l p:Value):Prop where
 z:s<u.heap.size
 c1:u.cell? ⟨s,1,none⟩=some t
 c2:u.cell? ⟨s,2,none⟩=some l
 c3:u.cell? ⟨s,3,none⟩=some p
 f1:u.frozen? ⟨s,1,none⟩=false
 f2:u.frozen? ⟨s,2,none⟩=false
 f3:u.frozen? ⟨s,3,none⟩=false
theorem Bx.below {u u':World} {s:Nat} {t l p:Value} (h:Bx u s t l p) (hb:Below u.heap.size u u'):Bx u' s t l p:=
 ⟨Nat.lt_of_lt_of_le h.z hb.size,cell_below hb h.c1 (nR _),cell_below hb h.c2 (nR _),cell_below hb h.c3 (nR _),by rw[(ak hb).2 _ _ h.z];exact h.f1,by rw[(ak hb).2 _ _ h.z];exact h.f2,by rw[(ak hb).2 _ _ h.z];exact h.f3⟩
noncomputable def Nz:Code:=match Tryd.f91.body with
 |some (.seq _ (.seq c _))=>c
 |_=> .skip
structure Own3 (W w3:World) (s:Nat) (B:Bk) (oa qa:Nat->Option Addr) (oc qc:Nat->Nat) (tb tcap lb pb:Nat) (pad:Option Addr) (pcap:Nat):Prop where
 tl:W.heap.size<=tb
 ll:W.heap.size<=lb
 pl:W.heap.size<=pb
 th:tb<w3.heap.size
 lh:lb<w3.heap.size
 tk:B.towns.length<=tcap/\tcap<=maxLen
 towns: ∀(k:Nat) (x:ByteArray),B.towns[k]? =some x->w3.cell? ⟨tb,k,none⟩=some (.string x)
 links: ∀(i:Nat) (L:Lnk),B.links[i]? =some L->w3.cell? ⟨lb,i*3,none⟩=some (.int .i64 L.one)/\w3.cell? ⟨lb,i*3+1,none⟩=some (.int .i64 L.two)/\w3.cell? ⟨lb,i*3+2,none⟩=some (.slice (oa i) L.steps.length (oc i))
 lf: ∀j,w3.frozen? ⟨lb,j,none⟩=false
 pairs: ∀(i:Nat) (L:Pr),B.pairs[i]? =some L->pad=some ⟨pb,0,none⟩/\pb<w3.heap.size/\w3.cell? ⟨pb,i*3,none⟩=some (.int .i64 L.one)/\w3.cell? ⟨pb,i*3+1,none⟩=some (.int .i64 L.two)/\w3.cell? ⟨pb,i*3+2,none⟩=some (.slice (qa i) L.calls.length (qc i))/\ ∀j,w3.frozen? ⟨pb,j,none⟩=false
 pc:pad=none->pcap=0
 rp:bG w3 pad
 rl: ∀ad,pad=some ad->W.heap.size<=ad.block
 rl2: ∀ad,pad=some ad->ad.block≠lb
 ne:tb≠lb/\tb≠pb/\lb≠pb
 below:Below W.heap.size W w3
def R1P (v0:Value) (ta la pa:Option Addr) (tc lc pc:Nat) (B:Bk) (w W:World) (oa qa:Nat->Option Addr) (oc qc:Nat->Nat) (a:Act) (w':World):Prop:=
 ∃(tb tcap lb lcap pb:Nat) (pad:Option Addr) (pcap:Nat) (w3:World),Own3 W w3 w.heap.size B oa qa oc qc tb tcap lb pb pad pcap/\
  a=⟨#[v0,.pointer (some ⟨w.heap.size,0,none⟩),.pointer (some ⟨w.heap.size+1,0,none⟩),ud,ud,.pointer (some ⟨w.heap.size,0,none⟩),.pointer (some ⟨w.heap.size,1,none⟩),.slice ta B.towns.length tc,.slice (some ⟨tb,0,none⟩) B.towns.length tcap,.pointer (some ⟨w.heap.size,0,none⟩),.pointer (some ⟨w.heap.size,2,none⟩),.slice la B.links.length lc,.slice (some ⟨lb,0,none⟩) B.links.length lcap,.pointer (some ⟨w.heap.size,0,none⟩),.pointer (some ⟨w.heap.size,3,none⟩),.slice pa B.pairs.length pc,.slice pad B.pairs.length pcap,.pointer (some ⟨w.heap.size,0,none⟩),.pointer (some ⟨w.heap.size,1,none⟩),.pointer (some ⟨w.heap.size,0,none⟩),.pointer (some ⟨w.heap.size,2,none⟩),.pointer (some ⟨w.heap.size,0,none⟩),.pointer (some ⟨w.heap.size,3,none⟩),ud,ud,ud,ud,ud,ud,ud,ud,ud,ud,ud,ud,ud,ud,ud,ud,ud,ud,ud,ud,ud,ud,ud,ud,ud,ud,ud,ud,ud,ud,ud,ud,ud,ud,ud,ud,ud,ud,ud,ud,ud,ud,ud,ud,ud],[]⟩/\
  w'=(((w3.setCell ⟨w.heap.size,1,none⟩ (.slice (some ⟨tb,0,none⟩) B.towns.length tcap)).setCell ⟨w.heap.size,2,none⟩ (.slice (some ⟨lb,0,none⟩) B.links.length lcap)).setCell ⟨w.heap.size,3,none⟩ (.slice pad B.pairs.length pcap))
theorem aaC (ta la pa:Option Addr) (tc lc pc:Nat) (B:Bk) (w W:World) (oa qa:Nat->Option Addr) (oc qc:Nat->Nat) (hl1:B.towns.length-1<=B.links.length/\B.links.length<=6) (ht1:2<=B.towns.length/\B.towns.length<=4) (hp1:B.pairs.length<=6)
    (HTW:Hid (SlS w ta B.towns)) (HO:Hid (∀(i:Nat) (L:Lnk),B.links[i]? =some L->(∃b o,la=some ⟨b,o,none⟩/\w.cell? ⟨b,o+i*3,none⟩=some (.int .i64 L.one)/\w.cell? ⟨b,o+i*3+1,none⟩=some (.int .i64 L.two)/\w.cell? ⟨b,o+i*3+2,none⟩=some (.slice (oa i) L.steps.length (oc i)))/\SlB w (oa i) L.steps/\L.steps.length<=1000000))
    (HQ:Hid (∀(i:Nat) (L:Pr),B.pairs[i]? =some L->(∃b o,pa=some ⟨b,o,none⟩/\w.cell? ⟨b,o+i*3,none⟩=some (.int .i64 L.one)/\w.cell? ⟨b,o+i*3+1,none⟩=some (.int .i64 L.two)/\w.cell? ⟨b,o+i*3+2,none⟩=some (.slice (qa i) L.calls.length (qc i)))/\SlB w (qa i) L.calls/\L.calls.length<=1000000))
    (Hpc:Hid (pa=none->pc=0)) (HBW:Hid (Below w.heap.size w W)) (HBx:Hid (Bx W w.heap.size (.slice ta B.towns.length tc) (.slice la B.links.length lc) (.slice pa B.pairs.length pc))) (v0:Value):
    Nz.wp tP (Exit.then (R1P v0 ta la pa tc lc pc B w W oa qa oc qc) Gone) ⟨#[v0,.pointer (some ⟨w.heap.size,0,none⟩),.pointer (some ⟨w.heap.size+1,0,none⟩),ud,ud,ud,ud,ud,ud,ud,ud,ud,ud,ud,ud,ud,ud,ud,ud,ud,ud,ud,ud,ud,ud,ud,ud,ud,ud,ud,ud,ud,ud,ud,ud,ud,ud,ud,ud,ud,ud,ud,ud,ud,ud,ud,ud,ud,ud,ud,ud,ud,ud,ud,ud,ud,ud,ud,ud,ud,ud,ud,ud,ud,ud,ud,ud,ud],[]⟩ W:=by
  have HT:Hid (∀u,Below W.heap.size W u->Calls tP 111 #[.slice ta B.towns.length tc] u fun e u'=> ∃g cap,e= .returned (.slice (some ⟨g,0,none⟩) B.towns.length cap)/\
      Hid (u.heap.size<=g/\g<u'.heap.size/\(∀(k:Nat) (x:ByteArray),B.towns[k]? =some x->u'.cell? ⟨g,k,none⟩=some (.string x))/\B.towns.length<=cap/\cap<=maxLen)/\Hid (Below u.heap.size u u')/\Hid (Below W.heap.size W u')/\
      u'.cell? ⟨w.heap.size,1,none⟩=some (.slice ta B.towns.length tc)/\u'.cell? ⟨w.heap.size,2,none⟩=some (.slice la B.links.length lc)/\u'.cell? ⟨w.heap.size,3,none⟩=some (.slice pa B.pairs.length pc)):=lH fun u hu=>by
    refine(aaq B.towns ta tc u (HTW.out.below (HBW.out.trans (hu.mono HBW.out.size)) (nR _)) (by omega) (by omega)).mono ?_;rintro e u' ⟨g,cap,rfl,h1,h2⟩;have hb:=hu.trans (h2.mono hu.size);have hx:=HBx.out.below hb;exact⟨g,cap,rfl,lH h1,lH h2,lH hb,hx.c1,hx.c2,hx.c3⟩
  have HL:Hid (∀u,Below W.heap.size W u->Calls tP 112 #[.slice la B.links.length lc] u fun e u'=> ∃g cap,e= .returned (.slice (some ⟨g,0,none⟩) B.links.length cap)/\
      Hid (u.heap.size<=g/\g<u'.heap.size/\(∀(i:Nat) (L:Lnk),B.links[i]? =some L->u'.cell? ⟨g,i*3,none⟩=some (.int .i64 L.one)/\u'.cell? ⟨g,i*3+1,none⟩=some (.int .i64 L.two)/\u'.cell? ⟨g,i*3+2,none⟩=some (.slice (oa i) L.steps.length (oc i)))/\ ∀j,u'.frozen? ⟨g,j,none⟩=false)/\Hid (Below u.heap.size u u')/\Hid (Below W.heap.size W u')/\
      u'.cell? ⟨w.heap.size,1,none⟩=some (.slice ta B.towns.length tc)/\u'.cell? ⟨w.heap.size,2,none⟩=some (.slice la B.links.length lc)/\u'.cell? ⟨w.heap.size,3,none⟩=some (.slice pa B.pairs.length pc)):=lH fun u hu=>by
    have hwu:=HBW.out.trans (hu.mono HBW.out.size);refine(aat B.links la lc u oa oc (fun i L hL=> ?_) (by omega) (by omega)).mono ?_
    · obtain⟨⟨b,o,e,k0,k1,k2⟩,_⟩:=HO.out i L hL
      exact⟨b,o,e,cell_below hwu k0 (nR _),cell_below hwu k1 (nR _),cell_below hwu k2 (nR _)⟩
    · rintro e u' ⟨g,cap,rfl,h1,h2⟩
      have hb:=hu.trans (h2.mono hu.size);have hx:=HBx.out.below hb;exact⟨g,cap,rfl,lH h1,lH h2,lH hb,hx.c1,hx.c2,hx.c3⟩
  have HP:Hid (∀u,Below W.heap.size W u->Calls tP 113 #[.slice pa B.pairs.length pc] u fun e u'=> ∃g a cap,e= .returned (.slice a B.pairs.length cap)/\
      Hid (u.heap.size<=g/\(1<=B.pairs.length->a=some ⟨g,0,none⟩/\g<u'.heap.size)/\(a=none->cap=0)/\bG u' a/\(∀(i:Nat) (L:Pr),B.pairs[i]? =some L->u'.cell? ⟨g,i*3,none⟩=some (.int .i64 L.one)/\u'.cell? ⟨g,i*3+1,none⟩=some (.int .i64 L.two)/\u'.cell? ⟨g,i*3+2,none⟩=some (.slice (qa i) L.calls.length (qc i)))/\(1<=B.pairs.length-> ∀j,u'.frozen? ⟨g,j,none⟩=false)/\ ∀ad,a=some ad->u.heap.size<=ad.block)/\Hid (Below u.heap.size u u')/\Hid (Below W.heap.size W u')/\
      Hid (Bx u' w.heap.size (.slice ta B.towns.length tc) (.slice la B.links.length lc) (.slice pa B.pairs.length pc))/\u'.cell? ⟨w.heap.size,1,none⟩=some (.slice ta B.towns.length tc)/\u'.cell? ⟨w.heap.size,2,none⟩=some (.slice la B.links.length lc)/\u'.cell? ⟨w.heap.size,3,none⟩=some (.slice pa B.pairs.length pc)/\u'.frozen? ⟨w.heap.size,1,none⟩=false/\u'.frozen? ⟨w.heap.size,2,none⟩=false/\u'.frozen? ⟨w.heap.size,3,none⟩=false):=lH fun u hu=>by
    have hwu:=HBW.out.trans (hu.mono HBW.out.size);refine(aau B.pairs pa pc u qa qc (fun i L hL=> ?_) Hpc.out (by omega)).mono ?_
    · obtain⟨⟨b,o,e,k0,k1,k2⟩,_⟩:=HQ.out i L hL
      exact⟨b,o,e,cell_below hwu k0 (nR _),cell_below hwu k1 (nR _),cell_below hwu k2 (nR _)⟩
    · rintro e u' ⟨g,a,cap,rfl,h1,h2⟩
      have hb:=hu.trans (h2.mono hu.size);have hx:=HBx.out.below hb;exact⟨g,a,cap,rfl,lH h1,lH h2,lH hb,lH hx,hx.c1,hx.c2,hx.c3,hx.f1,hx.f2,hx.f3⟩
  have HS:Hid (Below W.heap.size W W.drew):=lH (Below.refl _ _).drew;have k1:=HBx.out.c1;have k2:=HBx.out.c2;have k3:=HBx.out.c3;simp only[Nz,Tryd.f91]
  go_region_with (first
    | (go_simp;go_at_call 111;(with_reducible refine(HT.out _ HS.out).mono ?_);rintro e w1 ⟨tb,tcap,rfl,hT,hb01,hbw1,q1,q2,q3⟩)
    | (go_simp;go_at_call 112;(with_reducible refine(HL.out _ hbw1.out).mono ?_);rintro e w2 ⟨lb,lcap,rfl,hLk,hb12,hbw2,r1,r2,r3⟩)
    | (go_simp;go_at_call 113;(with_reducible refine(HP.out _ hbw2.out).mono ?_);rintro e w3 ⟨pb,pad,pcap,rfl,hPk,hb23,hbw3,hbx,s1,s2,s3,g1,g2,g3⟩))
  all_goals
    refine⟨tb,tcap,lb,lcap,pb,pad,pcap,w3, ?_,rfl,rfl⟩;obtain⟨t1,t2,t3,t4,t5⟩:=hT.out;obtain⟨l1,l2,l3,l4⟩:=hLk.out;obtain⟨p1,p2,p3,p4,p5,p6,p7⟩:=hPk.out;have z1:=hbw1.out.size;have z2:=hbw2.out.size;have z12:=hb12.out.size;have z23:=hb23.out.size;have hb13:=hb12.out.trans (hb23.out.mono z12);refine⟨?_,by omega,by omega,by omega,by omega,⟨t4,t5⟩,fun k x hx=>cell_below hb13 (t3 k x hx) (nR _),fun i L hL=> ?_,fun j=> ?_,fun i L hL=> ?_,p3,p4,fun ad e=>(by have:=p7 ad e;omega),fun ad e=>(by have:=p7 ad e;omega),⟨by omega,by omega,by omega⟩,hbw3.out⟩
    · simp at t1;omega
    · obtain⟨a,b,c⟩:=l3 i L hL
      exact⟨cell_below hb23.out a (nR _),cell_below hb23.out b (nR _),cell_below hb23.out c (nR _)⟩
    · rw[(ak hb23.out).2 _ _ l2];exact l4 j
    · have hlen:1<=B.pairs.length:=by have:=(List.getElem?_eq_some_iff.1 hL).1;omega
      obtain⟨a,b,c⟩:=p5 i L hL;exact⟨(p2 hlen).1,(p2 hlen).2,a,b,c,p6 hlen⟩
theorem grown_setCell {a w:World} {b o:Nat} {v:Value} (h:a.grownBy w (some b)):a.grownBy (w.setCell ⟨b,o,none⟩ v) (some b):=
 ⟨h.os,h.tape,h.output,by simpa using h.size,fun k hk hne=>by
  have e:k≠b:=fun e=>hne (by rw[e]);rw[Below.heap_setCell _ _ _ k e];exact h.block k hk hne⟩
theorem dG {w w':World} {r b o:Nat} {v:Value} (h:w.grownBy w' (some r)) (hc:w.cell? ⟨b,o,none⟩=some v) (hne:b≠r):w'.cell? ⟨b,o,none⟩=some v:=h.cell hc (fun e=>by cases e;exact hne rfl)
theorem EZ {w w':World} {r b o:Nat} (h:w.grownBy w' (some r)) (hb:b<w.heap.size) (hne:b≠r):w'.frozen? ⟨b,o,none⟩=w.frozen? ⟨b,o,none⟩:=World.frozen?_of_block (w:=w) (a:=⟨b,o,none⟩) (h.block b hb (fun e=>by cases e;exact hne rfl))
structure C1 (W1:World) (B:Bk) (oa:Nat->Option Addr) (oc:Nat->Nat) (lb:Nat) (sb:Nat->Nat) (k:Nat) (wr:World):Prop where
 g:W1.grownBy wr (some lb)
 z:lb<wr.heap.size
 f: ∀j,wr.frozen? ⟨lb,j,none⟩=false
 l: ∀(i:Nat) (L:Lnk),B.links[i]? =some L->wr.cell? ⟨lb,i*3,none⟩=some (.int .i64 L.one)/\wr.cell? ⟨lb,i*3+1,none⟩=some (.int .i64 L.two)/\(i<k-> ∃sc,wr.cell? ⟨lb,i*3+2,none⟩=some (.slice (some ⟨sb i,0,none⟩) L.steps.length sc))/\(k<=i->wr.cell? ⟨lb,i*3+2,none⟩=some (.slice (oa i) L.steps.length (oc i)))
 s: ∀(i:Nat),i<k->W1.heap.size<=sb i/\sb i<wr.heap.size
 t: ∀(i:Nat) (L:Lnk),B.links[i]? =some L->i<k-> ∀(m:Nat) (x:Int×Int),L.steps[m]? =some x->wr.cell? ⟨sb i,m*2,none⟩=some (.int .i64 x.1)/\wr.cell? ⟨sb i,m*2+1,none⟩=some (.int .i64 x.2)
theorem C1.step {W1:World} {B:Bk} {oa:Nat->Option Addr} {oc:Nat->Nat} {lb:Nat} {sb:Nat->Nat} {k:Nat} {wr u:World} {L0:Lnk} {g cap:Nat} (h:C1 W1 B oa oc lb sb k wr) (hlb:lb<W1.heap.size) (hL0:B.links[k]? =some L0) (hb:Below wr.heap.size wr u) (hg:wr.heap.size<=g) (hg2:g<u.heap.size)
  (hst: ∀(m:Nat) (x:Int×Int),L0.steps[m]? =some x->u.cell? ⟨g,m*2,none⟩=some (.int .i64 x.1)/\u.cell? ⟨g,m*2+1,none⟩=some (.int .i64 x.2)):
  C1 W1 B oa oc lb (fun i=>if i=k then g else sb i) (k+1) (u.setCell ⟨lb,k*3+2,none⟩ (.slice (some ⟨g,0,none⟩) L0.steps.length cap)):=by
 have hz:=h.g.size;have hz2:=hb.size;have far: ∀{b o:Nat} {v:Value},u.cell? ⟨b,o,none⟩=some v->b≠lb->(u.setCell ⟨lb,k*3+2,none⟩ (.slice (some ⟨g,0,none⟩) L0.steps.length cap)).cell? ⟨b,o,none⟩=some v:=fun h0 hne=>by
  rw[wF _ _ _ _ (Ne.symm hne)];exact h0
 have oth: ∀{o:Nat} {v:Value},wr.cell? ⟨lb,o,none⟩=some v->o≠k*3+2->(u.setCell ⟨lb,k*3+2,none⟩ (.slice (some ⟨g,0,none⟩) L0.steps.length cap)).cell? ⟨lb,o,none⟩=some v:=fun {o v} h0 hne=>by
  rw[wO _ _ _ _ (by intro e;simp only[Addr.mk.injEq] at e;omega)];exact cell_below hb h0 (nR _)
 refine⟨grown_setCell (grown_below h.g hb),by simp;have:=h.z;omega,fun j=> ?_,fun i L hL=> ?_,fun i hi=> ?_,fun i L hL hi m x hx=> ?_⟩
 ·rw[World.frozen?_setCell,(ak hb).2 _ _ h.z];exact h.f j
 ·obtain⟨h0,h1,h2,h3⟩:=h.l i L hL;refine⟨oth h0 (by omega),oth h1 (by omega),fun hi=> ?_,fun hi=>oth (h3 (by omega)) (by omega)⟩;by_cases e:i=k
  ·subst e;rw[hL0] at hL
   cases hL
   simp only[if_pos];exact⟨cap,World.cell?_setCell_same _ _ _ (cell_below hb (h3 (nR _)) (nR _))⟩
  ·simp only[if_neg e];obtain⟨sc,h4⟩:=h2 (by omega);exact⟨sc,oth h4 (by omega)⟩
 ·by_cases e:i=k
  ·simp only[if_pos e];rw[World.size_setCell];omega
  ·simp only[if_neg e];have:=h.s i (by omega);rw[World.size_setCell];omega
 ·by_cases e:i=k
  ·subst e;rw[hL0] at hL
   cases hL
   simp only[if_pos];obtain⟨a,b⟩:=hst m x hx;exact⟨far a (by omega),far b (by omega)⟩
  ·simp only[if_neg e];obtain⟨a,b⟩:=h.t i L hL (by omega) m x hx;have:=h.s i (by omega);exact⟨far (cell_below hb a (nR _)) (by omega),far (cell_below hb b (nR _)) (by omega)⟩
structure C2 (W2:World) (B:Bk) (qa:Nat->Option Addr) (qc:Nat->Nat) (pb:Nat) (cb:Nat->Nat) (k:Nat) (wr:World):Prop where
 g:W2.grownBy wr (some pb)
 z:1<=B.pairs.length->pb<wr.heap.size
 f:1<=B.pairs.length-> ∀j,wr.frozen? ⟨pb,j,none⟩=false
 l: ∀(i:Nat) (L:Pr),B.pairs[i]? =some L->wr.cell? ⟨pb,i*3,none⟩=some (.int .i64 L.one)/\wr.cell? ⟨pb,i*3+1,none⟩=some (.int .i64 L.two)/\(i<k-> ∃sc,wr.cell? ⟨pb,i*3+2,none⟩=some (.slice (some ⟨cb i,0,none⟩) L.calls.length sc))/\(k<=i->wr.cell? ⟨pb,i*3+2,none⟩=some (.slice (qa i) L.calls.length (qc i)))
 s: ∀(i:Nat),i<k->W2.heap.size<=cb i/\cb i<wr.heap.size/\ ∀j,j<k->j≠i->cb j≠cb i
 t: ∀(i:Nat) (L:Pr),B.pairs[i]? =some L->i<k->(∀(m:Nat) (x:Int×Int),L.calls[m]? =some x->wr.cell? ⟨cb i,m*2,none⟩=some (.int .i64 x.1)/\wr.cell? ⟨cb i,m*2+1,none⟩=some (.int .i64 x.2))/\ ∀j,wr.frozen? ⟨cb i,j,none⟩=false
theorem C2.step {W2:World} {B:Bk} {qa:Nat->Option Addr} {qc:Nat->Nat} {pb:Nat} {cb:Nat->Nat} {k:Nat} {wr u:World} {L0:Pr} {g cap:Nat} (h:C2 W2 B qa qc pb cb k wr) (hpb:pb<W2.heap.size) (hL0:B.pairs[k]? =some L0) (hb:Below wr.heap.size wr u) (hg:wr.heap.size<=g) (hg2:g<u.heap.size)
  (hst: ∀(m:Nat) (x:Int×Int),L0.calls[m]? =some x->u.cell? ⟨g,m*2,none⟩=some (.int .i64 x.1)/\u.cell? ⟨g,m*2+1,none⟩=some (.int .i64 x.2)) (hfr: ∀j,u.frozen? ⟨g,j,none⟩=false):
  C2 W2 B qa qc pb (fun i=>if i=k then g else cb i) (k+1) (u.setCell ⟨pb,k*3+2,none⟩ (.slice (some ⟨g,0,none⟩) L0.calls.length cap)):=by
 have hz:=h.g.size;have hz2:=hb.size;have far: ∀{b o:Nat} {v:Value},u.cell? ⟨b,o,none⟩=some v->b≠pb->(u.setCell ⟨pb,k*3+2,none⟩ (.slice (some ⟨g,0,none⟩) L0.calls.length cap)).cell? ⟨b,o,none⟩=some v:=fun h0 hne=>by
  rw[wF _ _ _ _ (Ne.symm hne)];exact h0
 have oth: ∀{o:Nat} {v:Value},wr.cell? ⟨pb,o,none⟩=some v->o≠k*3+2->(u.setCell ⟨pb,k*3+2,none⟩ (.slice (some ⟨g,0,none⟩) L0.calls.length cap)).cell? ⟨pb,o,none⟩=some v:=fun {o v} h0 hne=>by
  rw[wO _ _ _ _ (by intro e;simp only[Addr.mk.injEq] at e;omega)];exact cell_below hb h0 (nR _)
 refine⟨grown_setCell (grown_below h.g hb),fun h1=>by simp;have:=h.z h1;omega,fun h1 j=> ?_,fun i L hL=> ?_,fun i hi=> ?_,fun i L hL hi=> ?_⟩
 ·rw[World.frozen?_setCell,(ak hb).2 _ _ (h.z h1)];exact h.f h1 j
 ·obtain⟨h0,h1,h2,h3⟩:=h.l i L hL;refine⟨oth h0 (by omega),oth h1 (by omega),fun hi=> ?_,fun hi=>oth (h3 (by omega)) (by omega)⟩;by_cases e:i=k
  ·subst e;rw[hL0] at hL
   cases hL
   simp only[if_pos];exact⟨cap,World.cell?_setCell_same _ _ _ (cell_below hb (h3 (nR _)) (nR _))⟩
  ·simp only[if_neg e];obtain⟨sc,h4⟩:=h2 (by omega);exact⟨sc,oth h4 (by omega)⟩
 ·rw[World.size_setCell];by_cases e:i=k
  ·simp only[if_pos e];refine⟨by omega,hg2,fun j hj hne=> ?_⟩;have e2: ¬j=k:=by omega
   simp only[if_neg e2];have:=h.s j (by omega);omega
  ·simp only[if_neg e];have h1:=h.s i (by omega);refine⟨h1.1,by omega,fun j hj hne=> ?_⟩;by_cases e2:j=k
   ·simp only[if_pos e2];omega
   ·simp only[if_neg e2];exact h1.2.2 j (by omega) hne
 ·by_cases e:i=k
  ·subst e;rw[hL0] at hL
   cases hL
   simp only[if_pos];exact⟨fun m x hx=>⟨far (hst m x hx).1 (by omega),far (hst m x hx).2 (by omega)⟩,fun j=>by rw[World.frozen?_setCell];exact hfr j⟩
  ·simp only[if_neg e];have h0:=h.t i L hL (by omega);have:=h.s i (by omega);exact⟨fun m x hx=>⟨far (cell_below hb (h0.1 m x hx).1 (nR _)) (by omega),far (cell_below hb (h0.1 m x hx).2 (nR _)) (by omega)⟩,fun j=>by rw[World.frozen?_setCell,(ak hb).2 _ _ this.2.1];exact h0.2 j⟩
end Go.Proofs.YtaikibfkggglgaaDoor
