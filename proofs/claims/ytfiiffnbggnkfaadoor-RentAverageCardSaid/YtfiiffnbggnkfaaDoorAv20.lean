/- A part of the proof of a law; no conditions of its own. -/
import Derived.Test.YtfiiffnbggnkfaaDoorAv19
import Derived.Test.YtfiiffnbggnkfaaDoorAv17
open Go.RowKit renaming Below→bX
open Go renaming Calls→cF, Value→vL, World→wD
open Go.IntKind renaming i64→qi
open Go.Value renaming int→iN, slice→sL, pointer→pN
open Go.Ending renaming returned→rT
open Go.Obj renaming cells→cL
set_option maxRecDepth 100000
open Nat renaming le_refl→nR
open Go.Lib renaming hid→lH
open Go.RowKit.Below renaming refl→bR
open Go.Proofs.Tryd renaming prog→tP
open Array renaming getElem?_eq_some_iff→aS
open Go.World renaming block_lt_of_cell?→wBk
open Go.World renaming cell?_setCell_other→wO
open Go.World renaming cell?_setCell_far→wF
set_option maxHeartbeats 4000000
namespace Go.Proofs.YtfiiffnbggnkfaaDoor
open Go.RowKit Go.Rent Go.Tp Go.Conc
section
variable {n0 n1:Nat} {mb:Option Nat} {W W':wD}
theorem Mk.alloc (h:Mk n0 n1 mb W W') (o:Obj):Mk n0 n1 mb W (W'.alloc o):=h.trans (Mk.of_below ((bR _ _).alloc (nR _) _))
theorem Mk.putObj (h:Mk n0 n1 mb W W') {l:Nat} (o:Obj) (h0:n0<=l) (h1:l<n1):Mk n0 n1 mb W (W'.putObj l o):=
 h.trans ⟨rfl,rfl,rfl,by simp,fun k _ hc=>World.putObj_heap_other (by omega)⟩
theorem Mk.setCell (h:Mk n0 n1 mb W W') {b o:Nat} (v:vL) (h0:n0<=b) (h1:b<n1):Mk n0 n1 mb W (W'.setCell ⟨b,o,none⟩ v):=
 h.trans ⟨rfl,rfl,rfl,by simp,fun k _ hc=>Below.heap_setCell _ _ _ k (by show k≠b;omega)⟩
end
def ZX (n0 n1:Nat) (I:List (List Int×Int)->wD->Prop) (q:List (List Int×Int)) (U:wD):Exit->Act->wD->Prop
 | .normal,_,U'=>KeepsOthers U U'/\I q U'/\Mk n0 n1 none U U'
 |_,_,_=>False
theorem ZY {g:Operand} {ps:Array Tmp} {assign body:Code} {Q:Exit->Act->wD->Prop} {a:Act} {w:wD} {n:Nat} (B:Bk) (w0:wD) (mb:Nat) (xs:List (List Int×Int)) {gf:Nat} {lb:Array vL} (hg:a.eval g= .func (.func gf) #[] lb) (eg: ∀args w,(callFunc gf args).run tP w= .ok (.enter gf args) w)
  (hps:ps.size=1) (hw0:w0.heap.size<=w.heap.size) (hmb:mb<w0.heap.size) (I:List (List Int×Int)->wD->Prop)
  (hIp: ∀q W o,I q W->I q (W.putObj (w.heap.size+1) (.loop o))) (hIg: ∀q W W',I q W->W.grownBy W' (some mb)->I q W') (h0:I [] w)
  (hiter: ∀(J:List (List Int×Int)->wD->Prop),Rounds B w0 (w.heap.size+2) mb (w.heap.size+1) J-> ∀W,W.heap.size=w.heap.size+2->bX w.heap.size w W->J [] W->cF tP gf (#[.func (.yield (w.heap.size+1)) #[] #[]]++lb) W fun e W'=>(∃v,e= rT v)/\J xs W')
  (a₁:List Int×Int->Nat->Nat->Nat->Act)
  (hassign: ∀(l:Nat) (x:List Int×Int) (fa fc:Nat) (W:wD) (K:Act->wD->Prop),K (a₁ x fa fc W.heap.size) (W.alloc (cL #[sL (some ⟨fa,0,none⟩) x.1.length fc,iN qi x.2] 85))->
   assign.wpIn (Fence.wide.inRound l) 0 tP (Exit.then K (fun _ _ _=>False)) {tmps:=(ps.zip #[.agg #[sL (some ⟨fa,0,none⟩) x.1.length fc,iN qi x.2]]).foldl (fun t (p,v)=>t.setIfInBounds p v) a.tmps,defers:= []} W)
  (hbody: ∀(l:Nat) (q:List (List Int×Int)) (x:List Int×Int) (fa fc bx:Nat) (U:wD),I q U->SlI U (some ⟨fa,0,none⟩) x.1->w.heap.size+2<=fa->x.1.length=B.links.length->0<=x.2/\x.2<=17820->w.heap.size+2<=bx->
   U.cell? ⟨bx,0,none⟩=some (sL (some ⟨fa,0,none⟩) x.1.length fc)->U.cell? ⟨bx,1,none⟩=some (iN qi x.2)->
   body.wpIn (Fence.wide.inRound l) 0 tP (ZX w0.heap.size (w.heap.size+2) I (q++ [x]) U) (a₁ x fa fc bx) U)
  (hdone: ∀W,I xs W->W.heap[w.heap.size]? =some (.deferred (some []))->Q .normal {a with defers:={target:= .collected w.heap.size,args:= #[]}::a.defers} W):
  (Code.rangeFunc g ps assign body).wpIn Fence.wide n tP Q a w:=by
 refine wpIn_rangeFunc ?_;intro fn hfn;obtain⟨rec,hrec⟩: ∃rec:LoopState->Option Code->Loop,rec=fun st pe=>{state:=st,pending:=pe,fn,tmps:=a.tmps,params:=ps,assign,body,defers:=w.heap.size}:=⟨_,rfl⟩;obtain⟨W1,hW1⟩: ∃W1,(w.alloc (.deferred (some []))).alloc (.loop (rec .ready none))=W1:=⟨_,rfl⟩;have hL1:W1.heap[w.heap.size+1]? =some (.loop (rec .ready none)):=by
  rw[<-hW1];have:=World.alloc_heap_new (w.alloc (.deferred (some []))) (.loop (rec .ready none));rwa [World.size_alloc] at this
 have hK1:W1.heap[w.heap.size]? =some (.deferred (some [])):=by
  rw[<-hW1];exact(Below.heap_alloc _ _ _ (by simp)).trans (World.alloc_heap_new w _)
 have hb1:bX w.heap.size w W1:=by
  rw[<-hW1];exact((bR _ w).alloc (nR _) _).alloc (by simp) _
 have hI1:I [] W1:=hIg _ _ _ h0 (World.grownBy.of_below hb1 _);have hsz:W1.heap.size=w.heap.size+2:=by rw[<-hW1];simp
 refine⟨w.heap.size+1,[{target:= .collected w.heap.size,args:= #[]}],W1,{target:= .fn (.func gf) lb,args:= #[.func (.yield (w.heap.size+1)) #[] #[]]},W1,gf,
  #[.func (.yield (w.heap.size+1)) #[] #[]]++lb,W1, ?_, ?_, ?_, ?_,(fun h=>by cases h), ?_⟩
 ·rw[<-hW1,hrec];exact run_enterLoop_outer _ _ _ _ _
 ·simp only[resolve,hg];simp[go_sem]
 ·intro f' _;trivial
 ·simp[invoke,go_sem,eg]
 ·refine callsIn_wide.2 ((hiter (fun q W=>I q W/\W.heap[w.heap.size+1]? =some (.loop (rec .ready none))/\W.heap[w.heap.size]? =some (.deferred (some []))) ⟨?_, ?_⟩ W1 hsz hb1 ⟨hI1,hL1,hK1⟩).mono ?_)
  ·rintro q W W' ⟨hi,hl,hk⟩ hgr;exact⟨hIg _ _ _ hi hgr,by rw[hgr.block _ (aS.1 hl).1 (by intro e;cases e;omega)];exact hl,by rw[hgr.block _ (aS.1 hk).1 (by intro e;cases e;omega)];exact hk⟩
  ·rintro q x fa fc W ⟨hi,hl,hk⟩ hx hfa hlen hbd;have hlt:w.heap.size+1<W.heap.size:=(aS.1 hl).1;have hy:=run_yield (P:=tP) (args:= #[.agg #[sL (some ⟨fa,0,none⟩) x.1.length fc,iN qi x.2]]) hl (by rw[hrec];exact hps.symm);rw[hrec] at hy;refine⟨fn,_,assign,body,hy,roundIn_of_wpIn hfn (hassign _ x fa fc W _ ?_)⟩;have hbA:bX W.heap.size W (W.alloc (cL #[sL (some ⟨fa,0,none⟩) x.1.length fc,iN qi x.2] 85)):=(bR _ _).alloc (nR _) _;have hiA:=hIg _ _ _ hi (World.grownBy.of_below hbA (some mb));have hxA:=hx.below hbA (nR _);have hb0:(W.alloc (cL #[sL (some ⟨fa,0,none⟩) x.1.length fc,iN qi x.2] 85)).cell? ⟨W.heap.size,0,none⟩=some (sL (some ⟨fa,0,none⟩) x.1.length fc):=by simp
   have hb1:(W.alloc (cL #[sL (some ⟨fa,0,none⟩) x.1.length fc,iN qi x.2] 85)).cell? ⟨W.heap.size,1,none⟩=some (iN qi x.2):=by simp
   have hlA:(W.alloc (cL #[sL (some ⟨fa,0,none⟩) x.1.length fc,iN qi x.2] 85)).heap[w.heap.size+1]? =some (.loop (rec .ready none)):=by rw[hbA.block _ hlt];exact hl
   have hkA:(W.alloc (cL #[sL (some ⟨fa,0,none⟩) x.1.length fc,iN qi x.2] 85)).heap[w.heap.size]? =some (.deferred (some [])):=by rw[hbA.block _ (by omega)];exact hk
   have hmA:Mk w0.heap.size (w.heap.size+2) none W (W.alloc (cL #[sL (some ⟨fa,0,none⟩) x.1.length fc,iN qi x.2] 85)):=Mk.of_below hbA;have hszA:W.heap.size<(W.alloc (cL #[sL (some ⟨fa,0,none⟩) x.1.length fc,iN qi x.2] 85)).heap.size:=by simp
   generalize W.alloc (cL #[sL (some ⟨fa,0,none⟩) x.1.length fc,iN qi x.2] 85)=WA at *;refine⟨_,run_beginRound hlA (by rw[hrec]), ?_⟩;have hbx:w.heap.size+2<=W.heap.size:=by omega
   have pc: ∀{b o:Nat} {v:vL},WA.cell? ⟨b,o,none⟩=some v->b≠w.heap.size+1->(WA.putObj (w.heap.size+1) (.loop {rec .ready none with state:= .busy})).cell? ⟨b,o,none⟩=some v:=fun h hne=>by
    rw[World.cell?_of_block (w:=WA) (World.putObj_heap_other hne)];exact h
   have hl2:(WA.putObj (w.heap.size+1) (.loop {rec .ready none with state:= .busy})).heap[w.heap.size+1]? =some (.loop {rec .ready none with state:= .busy}):=World.putObj_heap_same (by omega);have hk2:(WA.putObj (w.heap.size+1) (.loop {rec .ready none with state:= .busy})).heap[w.heap.size]? =some (.deferred (some [])):=(World.putObj_heap_other (by omega)).trans hkA;refine wpIn_mono (hbody (w.heap.size+1) q x fa fc W.heap.size _ (hIp _ _ _ hiA) (fun i y hi'=> ?_) hfa hlen hbd hbx (pc hb0 (by omega)) (pc hb1 (by omega))) ?_
   ·obtain⟨b,o,e,h⟩:=hxA i y hi'
    cases e
    exact⟨fa,0,rfl,pc h (by omega)⟩
   ·rintro e a3 W3 hp
    cases e with
    |normal=>
     obtain⟨hk3,hi3,hm3⟩:=hp;have hl3:=hk3.same _ _ hl2 rfl;have hd3:=hk3.same _ _ hk2 rfl;have hend:=run_endRound (P:=tP) none hl3;rw[hrec] at hend hl3;refine⟨_,_,hend,rfl,⟨hIp _ _ _ hi3, ?_,(World.putObj_heap_other (by omega)).trans hd3⟩, ?_⟩
     ·rw[World.putObj_heap_same (aS.1 hl3).1,hrec];rfl
     ·refine((hmA.putObj _ (by omega) (by omega)).trans hm3).putObj _ (by omega) (by omega)
    |_=>exact hp.elim
  ·rintro e W2 ⟨⟨v,rfl⟩,hi,hl,hk⟩;have hend:=run_endLoop (P:=tP) hl (by rw[hrec];simp);rw[hrec] at hend;exact⟨none,_,hend,hdone _ (hIp _ _ _ hi) ((World.putObj_heap_other (by omega)).trans hk)⟩
section
attribute [local go_sem] Oper.semAt_some
def aac (W:wD) (s L:Nat):Option (List Int×Int)->Prop
 |none=>W.cell? ⟨s+1+1,0,none⟩=some (sL none 0 0)/\W.cell? ⟨s+1+1,1,none⟩=some (iN qi 0)
 |some x=> ∃fa fc,W.cell? ⟨s+1+1,0,none⟩=some (sL (some ⟨fa,0,none⟩) x.1.length fc)/\W.cell? ⟨s+1+1,1,none⟩=some (iN qi x.2)/\SlI W (some ⟨fa,0,none⟩) x.1/\s+6<=fa/\x.1.length=L/\0<=x.2/\x.2<=17820
structure LJ (w:wD) (L mb:Nat) (q:List (List Int×Int)) (W:wD):Prop where
 c0:W.cell? ⟨w.heap.size,0,none⟩=some (.func (.func 65) #[] #[])
 r0:W.cell? ⟨w.heap.size+1,0,none⟩=some (sL none 0 0)
 r1:W.cell? ⟨w.heap.size+1,1,none⟩=some (iN qi 0)
 rf: ∀o,W.frozen? ⟨w.heap.size+1,o,none⟩=false
 b:aac W w.heap.size L (iC q)
 bf: ∀o,W.frozen? ⟨w.heap.size+1+1,o,none⟩=false
 c3:W.cell? ⟨w.heap.size+1+1+1,0,none⟩=some (.bool (iC q).isSome)
 cf: ∀o,W.frozen? ⟨w.heap.size+1+1+1,o,none⟩=false
 g:w.grownBy W (some mb)
theorem LJ.of {w:wD} {L mb:Nat} {q:List (List Int×Int)} {W W':wD} (h:LJ w L mb q W) (hk: ∀k,k<W.heap.size->w.heap.size<=k->(k<w.heap.size+4\/w.heap.size+6<=k)->W'.heap[k]? =W.heap[k]?) (hg:w.grownBy W' (some mb)):LJ w L mb q W':=by
 have kc: ∀{b o:Nat} {v:vL},W.cell? ⟨b,o,none⟩=some v->w.heap.size<=b->(b<w.heap.size+4\/w.heap.size+6<=b)->W'.cell? ⟨b,o,none⟩=some v:=fun h0 h1 h2=>by
  rw[World.cell?_of_block (w:=W) (hk _ (wBk W _ h0) h1 h2)];exact h0
 have kf: ∀{b o o':Nat} {v:vL},W.cell? ⟨b,o',none⟩=some v->w.heap.size<=b->(b<w.heap.size+4\/w.heap.size+6<=b)->W'.frozen? ⟨b,o,none⟩=W.frozen? ⟨b,o,none⟩:=fun {b o o' v} h0 h1 h2=>
  World.frozen?_of_block (w:=W) (a:=⟨b,o,none⟩) (hk b (wBk W _ h0) h1 h2)
 have hbc: ∃v,W.cell? ⟨w.heap.size+1+1,0,none⟩=some v:=by
  have:=h.b
  cases e:iC q with
  |none=>rw[e] at this;exact⟨_,this.1⟩
  |some x=>rw[e] at this;obtain⟨fa,fc,h0,_⟩:=this;exact⟨_,h0⟩
 obtain⟨vb,hvb⟩:=hbc;refine⟨kc h.c0 (by omega) (by omega),kc h.r0 (by omega) (by omega),kc h.r1 (by omega) (by omega),fun o=>(kf h.r0 (by omega) (by omega)).trans (h.rf o), ?_,fun o=>(kf hvb (by omega) (by omega)).trans (h.bf o),kc h.c3 (by omega) (by omega),fun o=>(kf h.c3 (by omega) (by omega)).trans (h.cf o),hg⟩;have hb:=h.b
 cases e:iC q with
 |none=>rw[e] at hb;exact⟨kc hb.1 (by omega) (by omega),kc hb.2 (by omega) (by omega)⟩
 |some x=>
  rw[e] at hb;obtain⟨fa,fc,h0,h1,h2,h3,h4⟩:=hb;refine⟨fa,fc,kc h0 (by omega) (by omega),kc h1 (by omega) (by omega),fun i y hi=> ?_,h3,h4⟩;obtain⟨b,o,e2,h5⟩:=h2 i y hi
  cases e2
  exact⟨fa,0,rfl,kc h5 (by omega) (by omega)⟩
theorem LJ.store {w:wD} {L mb:Nat} {q:List (List Int×Int)} {U:wD} {x:List Int×Int} {fa fc:Nat} (h:LJ w L mb q U) (hl:iC (q++ [x])=some x) (hx:SlI U (some ⟨fa,0,none⟩) x.1) (hfa:w.heap.size+6<=fa) (hlen:x.1.length=L) (hbd:0<=x.2/\x.2<=17820):
  LJ w L mb (q++ [x]) (((U.setCell ⟨w.heap.size+1+1,0,none⟩ (sL (some ⟨fa,0,none⟩) x.1.length fc)).setCell ⟨w.heap.size+1+1,1,none⟩ (iN qi x.2)).setCell ⟨w.heap.size+1+1+1,0,none⟩ (.bool true)):=by
 have hbc: ∃v u,U.cell? ⟨w.heap.size+1+1,0,none⟩=some v/\U.cell? ⟨w.heap.size+1+1,1,none⟩=some u:=by
  have:=h.b
  cases e:iC q with
  |none=>rw[e] at this;exact⟨_,_,this.1,this.2⟩
  |some x=>rw[e] at this;obtain⟨fa,fc,h0,h1,_⟩:=this;exact⟨_,_,h0,h1⟩
 obtain⟨v,u,hv,hu⟩:=hbc;have n32:w.heap.size+1+1+1≠w.heap.size+1+1:=by omega
 have n23:w.heap.size+1+1≠w.heap.size+1+1+1:=by omega
 have far: ∀{b o:Nat} {z:vL},U.cell? ⟨b,o,none⟩=some z->b≠w.heap.size+1+1->b≠w.heap.size+1+1+1->(((U.setCell ⟨w.heap.size+1+1,0,none⟩ (sL (some ⟨fa,0,none⟩) x.1.length fc)).setCell ⟨w.heap.size+1+1,1,none⟩ (iN qi x.2)).setCell ⟨w.heap.size+1+1+1,0,none⟩ (.bool true)).cell? ⟨b,o,none⟩=some z:=fun h0 h1 h2=>by
  rw[wF _ _ _ _ (Ne.symm h2),wF _ _ _ _ (Ne.symm h1),wF _ _ _ _ (Ne.symm h1)];exact h0
 refine⟨far h.c0 (by omega) (by omega),far h.r0 (by omega) (by omega),far h.r1 (by omega) (by omega),fun o=>by simp only[World.frozen?_setCell];exact h.rf o, ?_,fun o=>by simp only[World.frozen?_setCell];exact h.bf o, ?_,fun o=>by simp only[World.frozen?_setCell];exact h.cf o, ?_⟩
 ·rw[hl];refine⟨fa,fc, ?_, ?_,fun i y hi=> ?_,hfa,hlen,hbd⟩
  ·rw[wF _ _ _ _ n32,wO _ _ _ _ (by intro e;cases e)];exact World.cell?_setCell_same _ _ _ hv
  ·rw[wF _ _ _ _ n32];refine World.cell?_setCell_same _ _ _ (?_: _=some u);rw[wO _ _ _ _ (by intro e;cases e)];exact hu
  ·obtain⟨b,o,e2,h5⟩:=hx i y hi
   cases e2
   exact⟨fa,0,rfl,far h5 (by omega) (by omega)⟩
 ·rw[hl];refine World.cell?_setCell_same _ _ _ (?_: _=some (.bool (iC q).isSome));rw[wF _ _ _ _ n23,wF _ _ _ _ n23];exact h.c3
 ·refine⟨h.g.os,h.g.tape,h.g.output,by simpa using h.g.size,fun k hk hne=> ?_⟩;have k2:k≠w.heap.size+1+1:=by omega
  have k3:k≠w.heap.size+1+1+1:=by omega
  rw[Below.heap_setCell _ _ _ k k3,Below.heap_setCell _ _ _ k k2,Below.heap_setCell _ _ _ k k2];exact h.g.block k hk hne
theorem Nh (U:wD) (a b c:Addr) (x y z:vL):KeepsOthers U (((U.setCell a x).setCell b y).setCell c z):=((KeepsOthers.setCell _ _ _).trans (KeepsOthers.setCell _ _ _)).trans (KeepsOthers.setCell _ _ _)
theorem mk3 {n0 n1:Nat} {U U':wD} {a b c:Nat} {i j k:Nat} {x y z:vL} (h:Mk n0 n1 none U U') (ha:n0<=a/\a<n1) (hb:n0<=b/\b<n1) (hc:n0<=c/\c<n1):Mk n0 n1 none U (((U'.setCell ⟨a,i,none⟩ x).setCell ⟨b,j,none⟩ y).setCell ⟨c,k,none⟩ z):=
 ((h.setCell _ ha.1 ha.2).setCell _ hb.1 hb.2).setCell _ hc.1 hc.2
theorem Nj {U U':wD} (h:bX U.heap.size U U'):KeepsOthers U U':=⟨h.size,fun k _ hk _=>(h.block k (aS.1 hk).1).trans hk⟩
theorem aad (V:BkV) (B:Bk) (hB:Good B) (w:wD) (fm:FuncId) (pre post:Array vL) (may:Int->Bool) (mb bb bm bt n:Nat) (hs:aB w V B) (hv:Vars w) (hoff:nP w V B (.func (.func fm) pre post) bb bm bt mb)
    (hcf: ∀(args:Array vL) (u:wD),(callFunc fm args).run tP u= .ok (.enter fm args) u)
    (hmay: ∀(i:Nat) (u:wD),bC w u->cF tP fm (pre.push (iN qi (i:Int))++post) u fun e u'=>e= rT (.bool (may (i:Int)))/\bX u.heap.size u u')
    (hbill:aO w mb n (bH B)) (hn:n+6*6^6+6<maxLen):
    cF tP 63 #[.func (.func 84) #[] #[pN (some ⟨bb,0,none⟩),pN (some ⟨bt,0,none⟩),pN (some ⟨bm,0,none⟩)],.func (.func 65) #[] #[]] w fun e w'=> ∃fa fc,e= rT (.agg #[sL (some ⟨fa,0,none⟩) (aC B may).1.length fc,iN qi (aC B may).2])/\
      SlI w' (some ⟨fa,0,none⟩) (aC B may).1/\(aC B may).1.length=B.links.length/\(0<=(aC B may).2/\(aC B may).2<=17820)/\w.heap.size<=fa/\w.grownBy w' (some mb):=by
  refine callsIn_wide (n:=9).1 (callsIn_of_wp_marks Tryd.func63 rfl trivial ?_);simp only[Tryd.ntmps63,List.size_toArray,List.length_cons,List.length_nil,Nat.reduceAdd,Nat.reduceSub,Array.replicate_succ,Array.replicate_zero,List.push_toArray,List.append_toArray,List.nil_append,List.cons_append];have Hmay:=lH hmay;have Hcf:=lH hcf;have Hb:=lH hB;have Hbill:=lH hbill;have Hmb:=lH hbill.lt;have Hsv:=lH hs;have Hoff:=lH hoff;have Hn:=lH hn;clear hmay hcf hB hbill hs hoff hn
  gi_wp2
  have h0:LJ w B.links.length mb [] ((((w.alloc (cL #[.func (.func 65) #[] #[]] 120)).alloc (cL #[sL none 0 0,iN qi 0] 85)).alloc (cL #[sL none 0 0,iN qi 0] 85)).alloc (cL #[.bool false] 4)):=by
    have hb:bX w.heap.size w ((((w.alloc (cL #[.func (.func 65) #[] #[]] 120)).alloc (cL #[sL none 0 0,iN qi 0] 85)).alloc (cL #[sL none 0 0,iN qi 0] 85)).alloc (cL #[.bool false] 4)):=by
      exact((((bR _ _).alloc (nR _) _).alloc (by simp) _).alloc (by simp;omega) _).alloc (by simp;omega) _
    refine⟨by go_simp,by go_simp,by go_simp,fun o=>by go_simp,⟨by go_simp,by go_simp⟩,fun o=>by go_simp,by go_simp;rfl,fun o=>by go_simp,World.grownBy.of_below hb _⟩
  have hsz:((((w.alloc (cL #[.func (.func 65) #[] #[]] 120)).alloc (cL #[sL none 0 0,iN qi 0] 85)).alloc (cL #[sL none 0 0,iN qi 0] 85)).alloc (cL #[.bool false] 4)).heap.size=w.heap.size+4:=by simp
  have hbW:bX w.heap.size w ((((w.alloc (cL #[.func (.func 65) #[] #[]] 120)).alloc (cL #[sL none 0 0,iN qi 0] 85)).alloc (cL #[sL none 0 0,iN qi 0] 85)).alloc (cL #[.bool false] 4)):=by
    exact((((bR _ _).alloc (nR _) _).alloc (by simp) _).alloc (by simp;omega) _).alloc (by simp;omega) _
  have HbW:=lH hbW;clear hbW;generalize ((((w.alloc (cL #[.func (.func 65) #[] #[]] 120)).alloc (cL #[sL none 0 0,iN qi 0] 85)).alloc (cL #[sL none 0 0,iN qi 0] 85)).alloc (cL #[.bool false] 4))=W at *;refine ZY (gf:=84) (lb:= #[pN (some ⟨bb,0,none⟩),pN (some ⟨bt,0,none⟩),pN (some ⟨bm,0,none⟩)]) B w mb (oP B may) rfl (cf Tryd.func84 rfl rfl) rfl (by omega) Hmb.out (LJ w B.links.length mb)
    (fun q U o h=>h.of (fun k _ h1 h2=>World.putObj_heap_other (by omega)) ?_) (fun q U U' h hg=>h.of (fun k hk h1 _=>hg.block k hk ?_) ?_) h0 (fun J R U hU hbU hj=> ?_) (fun x fa fc bx=>{tmps:= #[.func (.func 84) #[] #[pN (some ⟨bb,0,none⟩),pN (some ⟨bt,0,none⟩),pN (some ⟨bm,0,none⟩)],.func (.func 65) #[] #[],undef,pN (some ⟨w.heap.size,0,none⟩),pN (some ⟨w.heap.size+1,0,none⟩),pN (some ⟨w.heap.size+1+1,0,none⟩),pN (some ⟨w.heap.size+1+1+1,0,none⟩),pN (some ⟨bx,0,none⟩),.func (.func 84) #[] #[pN (some ⟨bb,0,none⟩),pN (some ⟨bt,0,none⟩),pN (some ⟨bm,0,none⟩)],.agg #[sL (some ⟨fa,0,none⟩) x.1.length fc,iN qi x.2],undef,undef,undef,undef,undef,undef,undef,undef,undef,undef,undef],defers:= []}) ?assign ?body ?done
  · exact⟨h.g.os,h.g.tape,h.g.output,by simpa using h.g.size,fun k hk hne=>(World.putObj_heap_other (by omega)).trans (h.g.block k hk hne)⟩
  · intro e
    cases e
    have:=Hmb.out;omega
  · exact Me h.g hg
  · have hbw:w.grownBy U (some mb):=grown_below h0.g hbU
    have hck:=bC.of_grown hbw Hbill.out;have hbl:aO U mb n (bH B):=Hbill.out.below (HbW.out.trans (hbU.mono (by omega))) Hmb.out;exact c119 V B Hb.out w fm pre post may (W.heap.size+2) mb (W.heap.size+1) bb bm bt n Hsv.out hv Hoff.out (by omega) Hmb.out Hcf.out Hmay.out J R U hU hck hj hbl Hn.out
  case assign=>
    intro l x fa fc U K hK
    gi_wp2
    exact hK
  case body=>
    intro l q x fa fc bx U hI hx hfa hlen hbd hbx hb0 hb1;have c0:=hI.c0;have hc3:=hI.c3;have hf0:=hI.bf 0;have hf1:=hI.bf 1;have hcf0:=hI.cf 0;have hbest:=hI.b;have HI:=lH hI;have HX:=lH hx;have Hfa:Hid (w.heap.size+6<=fa):=lH (by omega);have Hlen:=lH hlen;have Hbd:=lH hbd;have Hbx:=lH hbx;clear hI hx hfa hlen hbd hbx;have hsn:=MO q x
    cases hL:iC q with
    |none=>
      rw[hL] at hc3 hbest hsn;obtain⟨k0,k1⟩:=hbest;have Hsn:=lH hsn;clear hsn hL;simp only[Option.isSome_none] at hc3
      gi_wp2_with fail
      refine⟨fun _ h=>(by cases h), ?_⟩
      gi_wp2
      have hz:=hsz;exact⟨Nh _ _ _ _ _ _ _,HI.out.store Hsn.out HX.out Hfa.out Hlen.out Hbd.out,mk3 (Mk.refl _ _ _ _) (by omega) (by omega) (by omega)⟩
    |some b=>
      rw[hL] at hc3 hbest hsn;obtain⟨ba,bc,k0,k1,k2,k3,k4,k5⟩:=hbest;have Hsn:=lH hsn;have HLq:=lH hL;have Hk2:=lH k2;clear hsn hL k2;simp only[Option.isSome_some] at hc3;have HU:Hid (∀U1,bX U.heap.size U U1->LJ w B.links.length mb q U1):=lH fun U1 h1=>HI.out.of (fun k hk _ _=>h1.block k hk) (grown_below HI.out.g h1);have HF:Hid (∀U1,bX U.heap.size U U1->U1.cell? ⟨w.heap.size+1+1,0,none⟩=some (sL (some ⟨ba,0,none⟩) b.1.length bc)/\U1.cell? ⟨w.heap.size+1+1,1,none⟩=some (iN qi b.2)/\U1.frozen? ⟨w.heap.size+1+1,0,none⟩=false/\U1.frozen? ⟨w.heap.size+1+1,1,none⟩=false/\
          U1.cell? ⟨w.heap.size+1+1+1,0,none⟩=some (.bool true)/\U1.frozen? ⟨w.heap.size+1+1+1,0,none⟩=false/\U1.cell? ⟨bx,0,none⟩=some (sL (some ⟨fa,0,none⟩) x.1.length fc)/\U1.cell? ⟨bx,1,none⟩=some (iN qi x.2)):=lH fun U1 h1=>
        have hl:=HU.out U1 h1
        ⟨aoF h1 k0 (nR _),aoF h1 k1 (nR _),hl.bf 0,hl.bf 1,aoF h1 hc3 (nR _),hl.cf 0,aoF h1 hb0 (nR _),aoF h1 hb1 (nR _)⟩
      have H105:Hid (∀k,CallsIn (Fence.wide.inRound l) k tP 65 #[.agg #[sL (some ⟨fa,0,none⟩) x.1.length fc,iN qi x.2],.agg #[sL (some ⟨ba,0,none⟩) b.1.length bc,iN qi b.2]] U fun e u'=>e= rT (iN qi (qR x b))/\bX U.heap.size U u'):=lH fun k=>
        CallsIn.inRound l (callsIn_wide.2 (c105 x b (some ⟨fa,0,none⟩) (some ⟨ba,0,none⟩) fc bc U HX.out Hk2.out (by have:=Hlen.out;have:=Hb.out.fine.links;omega) (by have:=Hbd.out;omega) (by omega)))
      have Hk:=lH (And.intro k3 (And.intro k4 k5));clear k3 k4 k5;by_cases hc:qR x b<0
      · have Hc:Hid (iC (q++ [x])=some x):=lH (Hsn.out.trans (if_pos hc))
        clear Hsn
        gi_wp2_with (refine⟨trivial,rfl, ?_⟩;refine(H105.out _).mono ?_;rintro e U1 ⟨rfl,hbU1⟩;obtain⟨p0,p1,p2,p3,p4,p5,p6,p7⟩:=HF.out _ hbU1)
        have hz:=hsz;exact⟨(Nj hbU1).trans (Nh _ _ _ _ _ _ _),(HU.out U1 hbU1).store Hc.out (HX.out.below hbU1 (nR _)) Hfa.out Hlen.out Hbd.out,mk3 (Mk.of_below hbU1) (by omega) (by omega) (by omega)⟩
      · have Hc:Hid (iC (q++ [x])=some b):=lH (Hsn.out.trans (if_neg hc))
        clear Hsn
        gi_wp2_with (refine⟨trivial,rfl, ?_⟩;refine(H105.out _).mono ?_;rintro e U1 ⟨rfl,hbU1⟩;obtain⟨p0,p1,p2,p3,p4,p5,p6,p7⟩:=HF.out _ hbU1)
        have hl:=HU.out U1 hbU1;have hlq:iC q=some b:=HLq.out;exact⟨Nj hbU1,⟨hl.c0,hl.r0,hl.r1,hl.rf,by have:=hl.b;rw[hlq] at this;rw[Hc.out];exact this,hl.bf,by have:=hl.c3;rw[hlq] at this;rw[Hc.out];exact this,hl.cf,hl.g⟩,Mk.of_below hbU1⟩
  case done=>
    intro U h hd;obtain⟨x,hx⟩:=ZH (oP B may) (by unfold oP;simp[MP]);have hbest:=h.b;rw[hx] at hbest;have hbo:aC B may=x:=by unfold aC;rw[hx];rfl
    have Hbo:=lH hbo;obtain⟨fa,fc,k0,k1,k2,k3,k4,k5⟩:=hbest;have r0:=h.r0;have r1:=h.r1;have rf0:=h.rf 0;have rf1:=h.rf 1;have HH:=lH h;have Hk:=lH (And.intro k2 (And.intro k3 (And.intro k4 k5)));have Hd:=lH hd;clear h k2 k3 k4 k5 hx hbo hd
    gi_wp2
    have hK:((U.setCell ⟨w.heap.size+1,0,none⟩ (sL (some ⟨fa,0,none⟩) x.1.length fc)).setCell ⟨w.heap.size+1,1,none⟩ (iN qi x.2)).heap[W.heap.size]? =some (.deferred (some [])):=((KeepsOthers.setCell _ _ _).trans (KeepsOthers.setCell _ _ _)).same _ _ Hd.out rfl;have q0:((U.setCell ⟨w.heap.size+1,0,none⟩ (sL (some ⟨fa,0,none⟩) x.1.length fc)).setCell ⟨w.heap.size+1,1,none⟩ (iN qi x.2)).cell? ⟨w.heap.size+1,0,none⟩=some (sL (some ⟨fa,0,none⟩) x.1.length fc):=by
      rw[wO _ _ _ _ (by intro e;cases e)];exact World.cell?_setCell_same _ _ _ r0
    have q1:((U.setCell ⟨w.heap.size+1,0,none⟩ (sL (some ⟨fa,0,none⟩) x.1.length fc)).setCell ⟨w.heap.size+1,1,none⟩ (iN qi x.2)).cell? ⟨w.heap.size+1,1,none⟩=some (iN qi x.2):=by
      refine World.cell?_setCell_same _ _ _ (?_: _=some (iN qi 0));rw[wO _ _ _ _ (by intro e;cases e)];exact r1
    have hfar: ∀{b o:Nat} {z:vL},U.cell? ⟨b,o,none⟩=some z->b≠w.heap.size+1->b≠W.heap.size->(((U.setCell ⟨w.heap.size+1,0,none⟩ (sL (some ⟨fa,0,none⟩) x.1.length fc)).setCell ⟨w.heap.size+1,1,none⟩ (iN qi x.2)).putObj W.heap.size (.deferred none)).cell? ⟨b,o,none⟩=some z:=fun {b o z} h0 h1 h2=>by
      rw[World.cell?_of_block (w:=((U.setCell ⟨w.heap.size+1,0,none⟩ (sL (some ⟨fa,0,none⟩) x.1.length fc)).setCell ⟨w.heap.size+1,1,none⟩ (iN qi x.2))) (World.putObj_heap_other h2),wF _ _ _ _ (Ne.symm h1),wF _ _ _ _ (Ne.symm h1)];exact h0
    have hg:w.grownBy (((U.setCell ⟨w.heap.size+1,0,none⟩ (sL (some ⟨fa,0,none⟩) x.1.length fc)).setCell ⟨w.heap.size+1,1,none⟩ (iN qi x.2)).putObj W.heap.size (.deferred none)) (some mb):=by
      have hz:=hsz;refine⟨HH.out.g.os,HH.out.g.tape,HH.out.g.output,by simpa using HH.out.g.size,fun k hk hne=> ?_⟩;have e1:k≠w.heap.size+1:=by omega
      have e2:k≠W.heap.size:=by omega
      rw[World.putObj_heap_other e2,Below.heap_setCell _ _ _ k e1,Below.heap_setCell _ _ _ k e1];exact HH.out.g.block k hk hne
    have p0:=q0;have p1:=q1;rw[<-World.cell?_of_block (World.putObj_heap_other (o:= .deferred none) (show w.heap.size+1≠W.heap.size by omega))] at p0 p1;have HP:=lH (And.intro p0 p1);have HG:=lH hg;have hsl:SlI (((U.setCell ⟨w.heap.size+1,0,none⟩ (sL (some ⟨fa,0,none⟩) x.1.length fc)).setCell ⟨w.heap.size+1,1,none⟩ (iN qi x.2)).putObj W.heap.size (.deferred none)) (some ⟨fa,0,none⟩) x.1:=fun i y hi=>by
      obtain⟨b,o,e2,h5⟩:=Hk.out.1 i y hi;have hfa:=Hk.out.2.1
      cases e2
      exact⟨fa,0,rfl,hfar h5 (by omega) (by omega)⟩
    refine⟨by simp,.inl ⟨_,_,rfl,run_takeDeferred hK, ?_⟩⟩;generalize ((U.setCell ⟨w.heap.size+1,0,none⟩ (sL (some ⟨fa,0,none⟩) x.1.length fc)).setCell ⟨w.heap.size+1,1,none⟩ (iN qi x.2)).putObj W.heap.size (.deferred none)=Z at *;refine⟨.agg #[sL (some ⟨fa,0,none⟩) x.1.length fc,iN qi x.2], ?_,fa,fc, ?_⟩
    · obtain⟨z0,z1⟩:=HP.out
      simp[results,Tryd.results63,go_sem,z0,z1]
    · rw[Hbo.out]
      have hfa:=Hk.out.2.1;exact⟨rfl,hsl,Hk.out.2.2.1,Hk.out.2.2.2,by omega,HG.out⟩
end
def BG (w:wD) (x:List Int×Int) (L:Nat) (e:Ending) (w':wD):Prop:=
 ∃fa fc,e= rT (.agg #[sL (some ⟨fa,0,none⟩) x.1.length fc,iN qi x.2])/\SlI w' (some ⟨fa,0,none⟩) x.1/\x.1.length=L/\(0<=x.2/\x.2<=17820)/\w.heap.size<=fa/\bX w.heap.size w w'
theorem c79 (V:BkV) (B:Bk) (hB:Good B) (w:wD) (fm:FuncId) (pre post:Array vL) (may:Int->Bool) (hs:aB w V B) (hv:Vars w)
  (hcf: ∀(args:Array vL) (u:wD),(callFunc fm args).run tP u= .ok (.enter fm args) u)
  (hmay: ∀(i:Nat) (u:wD),bC w u->cF tP fm (pre.push (iN qi (i:Int))++post) u fun e u'=>e= rT (.bool (may (i:Int)))/\bX u.heap.size u u'):
  cF tP 35 #[V.val B,.func (.func fm) pre post] w (BG w (aC B may) B.links.length):=by
 obtain⟨ta,la,pa,tc,lc,pc⟩:=V;have Hm:=lH hmay;have Hcf:=lH hcf;have Hs:=lH hs;have Hv:=lH hv;have Hb:=lH hB;clear hmay hcf hs hv hB;go_enter Tryd.func35,Tryd.ntmps35
 go_wp2_with fail
 have hb0: ∀o1 o2:Obj,bX w.heap.size w ((w.alloc o1).alloc o2):=fun o1 o2=>((bR _ _).alloc (nR _) _).alloc (by simp) _;have HB0:=lH hb0;have r0: ∀o1:Obj,((w.alloc o1).alloc (cL #[sL none 0 0,iN qi 0] 85)).cell? ⟨w.heap.size+1,0,none⟩=some (sL none 0 0):=fun o1=>by go_simp
 have r1: ∀o1:Obj,((w.alloc o1).alloc (cL #[sL none 0 0,iN qi 0] 85)).cell? ⟨w.heap.size+1,1,none⟩=some (iN qi 0):=fun o1=>by go_simp
 have rf: ∀(o1:Obj) (i:Nat),((w.alloc o1).alloc (cL #[sL none 0 0,iN qi 0] 85)).frozen? ⟨w.heap.size+1,i,none⟩=false:=fun o1 i=>by go_simp
 have Hr:=lH (And.intro r0 (And.intro r1 rf));clear hb0 r0 r1 rf;refine(ZM ⟨ta,la,pa,tc,lc,pc⟩ B fm pre post _).mono ?_;rintro e w2 ⟨bb,bm,bt,mb,rfl,hoff,hbill,hmb,hb2⟩;have Hb2:=lH ((HB0.out _ _).trans (hb2.mono (HB0.out _ _).size));have q0:=aoF hb2 (Hr.out.1 _) (nR _);have q1:=aoF hb2 (Hr.out.2.1 _) (nR _);have qf: ∀i,w2.frozen? ⟨w.heap.size+1,i,none⟩=false:=fun i=>by rw[(ak hb2).2 _ _ (by simp)];exact Hr.out.2.2 _ i
 have Hmb:Hid (w.heap.size+2<=mb/\mb<w2.heap.size):=lH ⟨by simp at hmb;omega,hbill.lt⟩;have Hoff:=lH hoff;have Hbill:=lH hbill;have Hq:=lH (And.intro q0 (And.intro q1 qf));clear hb2 hoff hbill hmb q0 q1 qf;have hck:bC w w2:=bC.of_below Hb2.out (nR _);have Hck:=lH hck;clear hck
 go_wp2_with fail
 refine(aad ⟨ta,la,pa,tc,lc,pc⟩ B Hb.out w2 fm pre post may mb bb bm bt 0 (Hs.out.below Hb2.out (nR _)) ⟨Hv.out.v2.below Hb2.out (nR _),Hck.out _ _ _ Hv.out.g0,Hck.out _ _ _ Hv.out.g1,Nat.le_trans Hv.out.gl Hb2.out.size⟩ Hoff.out Hcf.out (fun i u hu=>Hm.out i u (Hck.out.trans hu)) Hbill.out (by decide)).mono ?_;rintro e w3 ⟨fa,fc,rfl,hsl,hlen,hbd,hfa,hg⟩;have hb3:bX w.heap.size w w3:=Hb2.out.grown hg Hb2.out.size (fun k hk=>by cases hk;have:=Hmb.out;omega);have hz:=wBk w2 _ Hq.out.1;have p0:w3.cell? ⟨w.heap.size+1,0,none⟩=some (sL none 0 0):=by
  rw[World.cell?_of_block (w:=w2) (a:=⟨w.heap.size+1,0,none⟩) (hg.block _ hz (by intro e;cases e;have:=Hmb.out;simp at this))];exact Hq.out.1
 have p1:w3.cell? ⟨w.heap.size+1,1,none⟩=some (iN qi 0):=by
  rw[World.cell?_of_block (w:=w2) (a:=⟨w.heap.size+1,1,none⟩) (hg.block _ hz (by intro e;cases e;have:=Hmb.out;simp at this))];exact Hq.out.2.1
 have pf: ∀i,w3.frozen? ⟨w.heap.size+1,i,none⟩=false:=fun i=>by
  rw[World.frozen?_of_block (w:=w2) (a:=⟨w.heap.size+1,i,none⟩) (hg.block _ hz (by intro e;cases e;have:=Hmb.out;simp at this))];exact Hq.out.2.2 i
 have pf0:=pf 0;have pf1:=pf 1;have Hfin:=lH (And.intro hsl (And.intro hlen (And.intro hbd (And.intro hfa hb3))));have Hz:=lH hz;clear hsl hlen hbd hfa hb3 hg pf hz;go_wp2;have hw2:w.heap.size+1<w2.heap.size:=Hz.out;obtain⟨g1,g2,g3,g4,g5⟩:=Hfin.out;refine bodyPost_ret (v:= .agg #[sL (some ⟨fa,0,none⟩) (aC B may).1.length fc,iN qi (aC B may).2]) (by simp[results,Tryd.results35,go_sem,p0,p1]) rfl ⟨fa,fc,rfl,fun i y hi=> ?_,g2,g3,by omega,(g5.setCell (by simp) _).setCell (by simp) _⟩;obtain⟨b,o,e2,h5⟩:=g1 i y hi
 cases e2
 have hne:w.heap.size+1≠fa:=by omega
 exact⟨fa,0,rfl,by rw[wF _ _ _ _ hne,wF _ _ _ _ hne];exact h5⟩
def aT:Int->Bool:=fun _=>true
def kC:Int->Bool:=fun _=>false
def mJ (k:Int):Int->Bool:=fun n=>n != k
theorem qW (V:BkV) (B:Bk) (hB:Good B) (w:wD) (hs:aB w V B) (hv:Vars w):cF tP 35 #[V.val B,.func (.func 40) #[V.val B] #[]] w (BG w (aC B aT) B.links.length):=
 c79 V B hB w 40 #[V.val B] #[] aT hs hv (cf Tryd.func40 rfl rfl) fun i u _=>by simpa[aT] using c80 V B (iN qi (i:Int)) u
theorem aae (V:BkV) (B:Bk) (hB:Good B) (w:wD) (hs:aB w V B) (hv:Vars w):cF tP 35 #[V.val B,.func (.func 36) #[V.val B] #[]] w (BG w (aC B kC) B.links.length):=
 c79 V B hB w 36 #[V.val B] #[] kC hs hv (cf Tryd.func36 rfl rfl) fun i u _=>by simpa[kC] using c87 V B (iN qi (i:Int)) u
theorem aaf (V:BkV) (B:Bk) (hB:Good B) (w:wD) (hs:aB w V B) (hv:Vars w) (b:Nat) (k:Int) (hk:w.cell? ⟨b,0,none⟩=some (iN qi k)):cF tP 35 #[V.val B,.func (.func 69) #[] #[pN (some ⟨b,0,none⟩)]] w (BG w (aC B (mJ k)) B.links.length):=
 c79 V B hB w 69 #[] #[pN (some ⟨b,0,none⟩)] (mJ k) hs hv (cf Tryd.func69 rfl rfl) fun i u hu=>by
  refine(Zw (i:Int) k b u (hu _ _ _ hk)).mono ?_;rintro e u' ⟨rfl,rfl⟩;exact⟨rfl,bR _ _⟩
def Nk (w:wD) (x:List Int×Int) (L:Nat) (al:Int) (e:Ending) (w':wD):Prop:=
 (al=0-> ∃fa fc,e= rT (.tuple #[sL (some ⟨fa,0,none⟩) x.1.length fc,iN qi x.2,iN qi 0])/\SlI w' (some ⟨fa,0,none⟩) x.1/\x.1.length=L/\(0<=x.2/\x.2<=17820)/\w.heap.size<=fa)/\
 (al≠0->e= rT (.tuple #[sL none 0 0,iN qi 0,iN qi al]))/\bX w.heap.size w w'
theorem tV (B:Bk):fF B true=B.alarm:=by
 unfold fF;by_cases h:B.alarm=0
 ·rw[if_pos h,if_pos rfl,h]
 ·rw[if_neg h]
theorem c39 (V:BkV) (B:Bk) (w:wD) (hs:aB w V B) (hv:Vars w):cF tP 15 #[V.val B] w (Nk w (aC B aT) B.links.length B.alarm):=by
 obtain⟨ta,la,pa,tc,lc,pc⟩:=V;have hb0:bX w.heap.size w (w.alloc (cL #[iN qi B.hours,sL ta B.towns.length tc,sL la B.links.length lc,sL pa B.pairs.length pc] 26)):=(bR _ _).alloc (nR _) _;have HC:=lH (c78 ⟨ta,la,pa,tc,lc,pc⟩ B true _ (hs.below hb0 (nR _)) (hv.v2.below hb0 (nR _)));rw[tV] at HC;have HB0:=lH hb0;have Hs:=lH hs;have Hv:=lH hv;clear hs hv hb0;by_cases hok:B.alarm=0
 ·have HG:=lH (gY hok);have Hok:=lH hok;rw[hok,jE] at HC;clear hok;go_enter Tryd.func15,Tryd.ntmps15
  go_wp2_with fail
  refine HC.out.mono ?_;rintro e w1 ⟨rfl,hb1⟩;have Hbw:=lH (HB0.out.trans (hb1.mono (by simp)));clear hb1 HC
  go_wp2_with fail
  have hb2: ∀o:Obj,bX w.heap.size w (w1.alloc o):=fun o=>Hbw.out.alloc Hbw.out.size o;refine(qW ⟨ta,la,pa,tc,lc,pc⟩ B HG.out _ (Hs.out.below (hb2 _) (nR _)) ⟨Hv.out.v2.below (hb2 _) (nR _),aoF (hb2 _) Hv.out.g0 (nR _),aoF (hb2 _) Hv.out.g1 (nR _),Nat.le_trans Hv.out.gl (hb2 _).size⟩).mono ?_;rintro e w2 ⟨fa,fc,rfl,g1,g2,g3,g4,g5⟩;have Hg:Hid (SlI w2 (some ⟨fa,0,none⟩) (aC B aT).1/\(aC B aT).1.length=B.links.length/\(0<=(aC B aT).2/\(aC B aT).2<=17820)/\w.heap.size<=fa/\bX w.heap.size w w2):=lH ⟨g1,g2,g3,by have:=Hbw.out.size;simp at g4;omega,(hb2 _).trans (g5.mono (hb2 _).size)⟩;clear g1 g2 g3 g4 g5 hb2
  go_wp2_with fail
  go_quiet (fail)
  go_wp2;obtain⟨g1,g2,g3,g4,g5⟩:=Hg.out;have hbA: ∀o:Obj,bX w2.heap.size w2 (w2.alloc o):=fun o=>(bR _ _).alloc (nR _) _;refine bodyPost_ret (v:= .tuple #[sL (some ⟨fa,0,none⟩) (aC B aT).1.length fc,iN qi (aC B aT).2,iN qi 0]) (by simp[results,Tryd.results15,go_sem]) rfl ⟨fun _=>⟨fa,fc,rfl, ?_,g2,g3,g4⟩,fun h=>absurd Hok.out h, ?_⟩
  ·exact(g1.below (hbA _) (nR _)).below (aV (bR _ _) _) (nR _)
  ·exact aV (g5.trans ((hbA _).mono g5.size)) _
 ·have HE:=lH hok;rw[lC hok] at HC;generalize B.alarm=al at *;clear hok;go_enter Tryd.func15,Tryd.ntmps15
  go_wp2_with fail
  refine HC.out.mono ?_;rintro e w1 ⟨rfl,hb1⟩;have Hbw:=lH (HB0.out.trans (hb1.mono (by simp)));have hne:(al != 0)=true:=by simpa using HE.out
  clear hb1;go_wp2;refine bodyPost_ret (v:= .tuple #[sL none 0 0,iN qi 0,iN qi al]) (by simp[results,Tryd.results15,go_sem]) rfl ⟨fun h=>absurd h HE.out,fun _=>rfl,Hbw.out.trans ((bR _ _).alloc Hbw.out.size _)⟩
theorem c49 (V:BkV) (B:Bk) (w:wD) (hs:aB w V B) (hv:Vars w):cF tP 13 #[V.val B] w (Nk w (aC B kC) B.links.length B.alarm):=by
 obtain⟨ta,la,pa,tc,lc,pc⟩:=V;have hb0:bX w.heap.size w (w.alloc (cL #[iN qi B.hours,sL ta B.towns.length tc,sL la B.links.length lc,sL pa B.pairs.length pc] 26)):=(bR _ _).alloc (nR _) _;have HC:=lH (c78 ⟨ta,la,pa,tc,lc,pc⟩ B true _ (hs.below hb0 (nR _)) (hv.v2.below hb0 (nR _)));rw[tV] at HC;have HB0:=lH hb0;have Hs:=lH hs;have Hv:=lH hv;clear hs hv hb0;by_cases hok:B.alarm=0
 ·have HG:=lH (gY hok);have Hok:=lH hok;rw[hok,jE] at HC;clear hok;go_enter Tryd.func13,Tryd.ntmps13
  go_wp2_with fail
  refine HC.out.mono ?_;rintro e w1 ⟨rfl,hb1⟩;have Hbw:=lH (HB0.out.trans (hb1.mono (by simp)));clear hb1 HC
  go_wp2_with fail
  have hb2: ∀o:Obj,bX w.heap.size w (w1.alloc o):=fun o=>Hbw.out.alloc Hbw.out.size o;refine(aae ⟨ta,la,pa,tc,lc,pc⟩ B HG.out _ (Hs.out.below (hb2 _) (nR _)) ⟨Hv.out.v2.below (hb2 _) (nR _),aoF (hb2 _) Hv.out.g0 (nR _),aoF (hb2 _) Hv.out.g1 (nR _),Nat.le_trans Hv.out.gl (hb2 _).size⟩).mono ?_;rintro e w2 ⟨fa,fc,rfl,g1,g2,g3,g4,g5⟩;have Hg:Hid (SlI w2 (some ⟨fa,0,none⟩) (aC B kC).1/\(aC B kC).1.length=B.links.length/\(0<=(aC B kC).2/\(aC B kC).2<=17820)/\w.heap.size<=fa/\bX w.heap.size w w2):=lH ⟨g1,g2,g3,by have:=Hbw.out.size;simp at g4;omega,(hb2 _).trans (g5.mono (hb2 _).size)⟩;clear g1 g2 g3 g4 g5 hb2
  go_wp2_with fail
  go_quiet (fail)
  go_wp2;obtain⟨g1,g2,g3,g4,g5⟩:=Hg.out;have hbA: ∀o:Obj,bX w2.heap.size w2 (w2.alloc o):=fun o=>(bR _ _).alloc (nR _) _;refine bodyPost_ret (v:= .tuple #[sL (some ⟨fa,0,none⟩) (aC B kC).1.length fc,iN qi (aC B kC).2,iN qi 0]) (by simp[results,Tryd.results13,go_sem]) rfl ⟨fun _=>⟨fa,fc,rfl, ?_,g2,g3,g4⟩,fun h=>absurd Hok.out h, ?_⟩
  ·exact(g1.below (hbA _) (nR _)).below (aV (bR _ _) _) (nR _)
  ·exact aV (g5.trans ((hbA _).mono g5.size)) _
 ·have HE:=lH hok;rw[lC hok] at HC;generalize B.alarm=al at *;clear hok;go_enter Tryd.func13,Tryd.ntmps13
  go_wp2_with fail
  refine HC.out.mono ?_;rintro e w1 ⟨rfl,hb1⟩;have Hbw:=lH (HB0.out.trans (hb1.mono (by simp)));have hne:(al != 0)=true:=by simpa using HE.out
  clear hb1;go_wp2;refine bodyPost_ret (v:= .tuple #[sL none 0 0,iN qi 0,iN qi al]) (by simp[results,Tryd.results13,go_sem]) rfl ⟨fun h=>absurd h HE.out,fun _=>rfl,Hbw.out.trans ((bR _ _).alloc Hbw.out.size _)⟩
def kD (B:Bk) (k:Int):Int:=(aC B (mJ k)).2-(aC B aT).2
theorem Vars.below {w w':wD} (h:Vars w) (hb:bX w.heap.size w w'):Vars w':=⟨h.v2.below hb (nR _),aoF hb h.g0 (nR _),aoF hb h.g1 (nR _),Nat.le_trans h.gl hb.size⟩
theorem EN (a:vL) (b:Int) (u:wD):(Instr.field 85 (.agg #[a,iN qi b]) 1).run tP u= .ok (iN qi b) u:=by
 have a3:=Tryd.isAgg3;have z3:=Tryd.sizeOf3;unfold Instr.field;simp only[Sem.run_bind,run_underlying Tryd.underlying85,Result.andThen_ok];go_simp;simp[asAgg]
theorem c89 (V:BkV) (B:Bk) (hB:Good B) (k:Int) (w:wD) (hs:aB w V B) (hv:Vars w):cF tP 45 #[V.val B,iN qi k] w fun e w'=>e= rT (iN qi (kD B k))/\(-17820<=kD B k/\kD B k<=17820)/\bX w.heap.size w w':=by
  obtain⟨ta,la,pa,tc,lc,pc⟩:=V;have Hs:=lH hs;have Hv:=lH hv;have HB:=lH hB;clear hs hv hB;go_enter Tryd.func45,Tryd.ntmps45
  go_wp2_with fail
  generalize hWd:(w.alloc (cL #[iN qi B.hours,sL ta B.towns.length tc,sL la B.links.length lc,sL pa B.pairs.length pc] 81)).alloc (cL #[iN qi k] 3)=W;have HBW:Hid (bX w.heap.size w W):=lH (by subst hWd;exact((bR _ _).alloc (nR _) _).alloc (by simp) _);have k0:W.cell? ⟨w.heap.size,0,none⟩=some (iN qi B.hours):=by subst hWd;go_simp
  have k1:W.cell? ⟨w.heap.size,1,none⟩=some (sL ta B.towns.length tc):=by subst hWd;go_simp
  have k2:W.cell? ⟨w.heap.size,2,none⟩=some (sL la B.links.length lc):=by subst hWd;go_simp
  have k3:W.cell? ⟨w.heap.size,3,none⟩=some (sL pa B.pairs.length pc):=by subst hWd;go_simp
  have k4:W.cell? ⟨w.heap.size+1,0,none⟩=some (iN qi k):=by subst hWd;go_simp
  have Hk4:=lH k4;clear hWd k4;have HS:Hid (∀u,bX W.heap.size W u->aB u ⟨ta,la,pa,tc,lc,pc⟩ B/\Vars u):=lH fun u hu=>⟨Hs.out.below (HBW.out.trans (hu.mono HBW.out.size)) (nR _),Hv.out.below (HBW.out.trans (hu.mono HBW.out.size))⟩;have HC:Hid (∀u u',bX W.heap.size W u->bX u.heap.size u u'->bX W.heap.size W u'/\u'.cell? ⟨w.heap.size,0,none⟩=some (iN qi B.hours)/\u'.cell? ⟨w.heap.size,1,none⟩=some (sL ta B.towns.length tc)/\u'.cell? ⟨w.heap.size,2,none⟩=some (sL la B.links.length lc)/\u'.cell? ⟨w.heap.size,3,none⟩=some (sL pa B.pairs.length pc)):=lH fun u u' h h'=>
    have hb:=h.trans (h'.mono h.size)
    ⟨hb,aoF hb k0 (nR _),aoF hb k1 (nR _),aoF hb k2 (nR _),aoF hb k3 (nR _)⟩
  have H1:Hid (∀u,bX W.heap.size W u->cF tP 35 #[.agg #[iN qi B.hours,sL ta B.towns.length tc,sL la B.links.length lc,sL pa B.pairs.length pc],.func (.func 69) #[] #[pN (some ⟨w.heap.size+1,0,none⟩)]] u fun e u'=> ∃fa fc,e= rT (.agg #[sL (some ⟨fa,0,none⟩) (aC B (mJ k)).1.length fc,iN qi (aC B (mJ k)).2])/\
      Hid (0<=(aC B (mJ k)).2/\(aC B (mJ k)).2<=17820)/\bX W.heap.size W u'/\u'.cell? ⟨w.heap.size,0,none⟩=some (iN qi B.hours)/\u'.cell? ⟨w.heap.size,1,none⟩=some (sL ta B.towns.length tc)/\u'.cell? ⟨w.heap.size,2,none⟩=some (sL la B.links.length lc)/\u'.cell? ⟨w.heap.size,3,none⟩=some (sL pa B.pairs.length pc)):=lH fun u hu=>by
    refine(aaf ⟨ta,la,pa,tc,lc,pc⟩ B HB.out u (HS.out u hu).1 (HS.out u hu).2 (w.heap.size+1) k (aoF hu Hk4.out (nR _))).mono ?_;rintro e u' ⟨fa,fc,rfl,_,_,g3,_,g5⟩;exact⟨fa,fc,rfl,lH g3,HC.out u u' hu g5⟩
  have H2:Hid (∀u,bX W.heap.size W u->cF tP 35 #[.agg #[iN qi B.hours,sL ta B.towns.length tc,sL la B.links.length lc,sL pa B.pairs.length pc],.func (.func 40) #[.agg #[iN qi B.hours,sL ta B.towns.length tc,sL la B.links.length lc,sL pa B.pairs.length pc]] #[]] u fun e u'=> ∃fa fc,e= rT (.agg #[sL (some ⟨fa,0,none⟩) (aC B aT).1.length fc,iN qi (aC B aT).2])/\
      Hid (0<=(aC B aT).2/\(aC B aT).2<=17820)/\bX W.heap.size W u'/\u'.cell? ⟨w.heap.size,0,none⟩=some (iN qi B.hours)/\u'.cell? ⟨w.heap.size,1,none⟩=some (sL ta B.towns.length tc)/\u'.cell? ⟨w.heap.size,2,none⟩=some (sL la B.links.length lc)/\u'.cell? ⟨w.heap.size,3,none⟩=some (sL pa B.pairs.length pc)):=lH fun u hu=>by
    refine(qW ⟨ta,la,pa,tc,lc,pc⟩ B HB.out u (HS.out u hu).1 (HS.out u hu).2).mono ?_;rintro e u' ⟨fa,fc,rfl,_,_,g3,_,g5⟩;exact⟨fa,fc,rfl,lH g3,HC.out u u' hu g5⟩
  have HE:Hid (kD B k=(aC B (mJ k)).2-(aC B aT).2):=lH rfl;generalize aC B (mJ k)=x at *;generalize aC B aT=y at *;have hwr:0<=x.2/\x.2<=17820->0<=y.2/\y.2<=17820->IntKind.wrap qi (x.2-y.2)=x.2-y.2:=fun h1 h2=>IntWalk.i64_in _ (by omega);have hstart:bX W.heap.size W W.drew:=(bR _ _).drew;have Hw:=lH hwr;clear hwr;have hf121:=EN
  go_region_held3 (fun w'=>w'.cell? ⟨w.heap.size,0,none⟩=some (iN qi B.hours)/\w'.cell? ⟨w.heap.size,1,none⟩=some (sL ta B.towns.length tc)/\w'.cell? ⟨w.heap.size,2,none⟩=some (sL la B.links.length lc)/\w'.cell? ⟨w.heap.size,3,none⟩=some (sL pa B.pairs.length pc))
    (first
      |assumption
      |exact⟨k0,k1,k2,k3⟩)
    (first
      | (go_simp;go_at_call 35;(with_reducible refine(H1.out _ hstart).mono ?_);rintro e w1 ⟨fa,fc,rfl,hbd1,hbw1,hS1⟩)
      | (go_simp;go_at_call 35;(with_reducible refine(H2.out _ hbw1).mono ?_);rintro e w2 ⟨ga,gc,rfl,hbd2,hbw2,hS2⟩;have hwr:=Hw.out hbd1.out hbd2.out))
  · have Hbd:=lH (And.intro hbd1.out hbd2.out)
    have Hfin:Hid (bX w.heap.size w w2):=lH (HBW.out.trans (hbw2.mono HBW.out.size));clear hbd1 hbd2;go_wp2;go_ret;have:=Hbd.out;exact⟨by rw[HE.out];rfl,by rw[HE.out];omega,Hfin.out⟩
  · have Hbd:=lH (And.intro hbd1.out hbd2.out)
    have Hfin:Hid (bX w.heap.size w w2):=lH (HBW.out.trans (hbw2.mono HBW.out.size));clear hbd1 hbd2;go_wp2;go_ret;have:=Hbd.out;exact⟨by rw[HE.out];rfl,by rw[HE.out];omega,Hfin.out⟩
  · have Hbd:=lH (And.intro hbd1.out hbd2.out)
    have Hfin:Hid (bX w.heap.size w w2):=lH (HBW.out.trans (hbw2.mono HBW.out.size));clear hbd1 hbd2;go_wp2;go_ret;have:=Hbd.out;exact⟨by rw[HE.out];rfl,by rw[HE.out];omega,Hfin.out⟩
def oQ (B:Bk):Nat->Nat->Int×Int->Int×Int
 | 0,_,acc=>acc
 |n+1,i,acc=>oQ B n (i+1) (if acc.2<kD B (i:Int) then ((i:Int),kD B (i:Int)) else acc)
def mM (B:Bk):Int×Int:=oQ B (B.links.length-B.spokes) B.spokes (-1,0)
def oU (B:Bk):vL:=if B.alarm=0 then .tuple #[iN qi (mM B).1,iN qi (mM B).2,iN qi 0] else .tuple #[iN qi 0,iN qi 0,iN qi B.alarm]
theorem aag {B:Bk} {n k:Nat} (h:k<n) (acc:Int×Int):oQ B (n-k) k acc=oQ B (n-(k+1)) (k+1) (if acc.2<kD B (k:Int) then ((k:Int),kD B (k:Int)) else acc):=by
 obtain⟨m,hm⟩: ∃m,n-k=m+1:=⟨n-k-1,by omega⟩;rw[hm,oQ,show n-(k+1)=m by omega]
theorem c50 (V:BkV) (B:Bk) (w:wD) (hs:aB w V B) (hv:Vars w):cF tP 19 #[V.val B] w fun e w'=>e= rT (oU B)/\bX w.heap.size w w':=by
 obtain⟨ta,la,pa,tc,lc,pc⟩:=V;have hb0:bX w.heap.size w (w.alloc (cL #[iN qi B.hours,sL ta B.towns.length tc,sL la B.links.length lc,sL pa B.pairs.length pc] 26)):=(bR _ _).alloc (nR _) _;have HC:=lH (c78 ⟨ta,la,pa,tc,lc,pc⟩ B true _ (hs.below hb0 (nR _)) (hv.v2.below hb0 (nR _)));rw[tV] at HC;have hc2:(w.alloc (cL #[iN qi B.hours,sL ta B.towns.length tc,sL la B.links.length lc,sL pa B.pairs.length pc] 26)).cell? ⟨w.heap.size,2,none⟩=some (sL la B.links.length lc):=by go_simp
 have HB0:=lH hb0;have Hs:=lH hs;have Hv:=lH hv;have Hc2:=lH hc2;clear hs hv hb0 hc2;by_cases hok:B.alarm=0
 ·have HG:=lH (gY hok);have HE:Hid (oU B= .tuple #[iN qi (mM B).1,iN qi (mM B).2,iN qi 0]):=lH (by unfold oU;rw[if_pos hok]);rw[hok,jE] at HC;have hl1:=HG.out.fine.links;have ht1:=HG.out.fine.towns;have HSP:Hid (B.spokes=B.towns.length-1):=lH rfl;obtain⟨sp,hsp⟩: ∃sp,B.spokes=sp:=⟨_,rfl⟩;have hsp1:(B.towns.length:Int)-1=(sp:Int):=by have:=HSP.out;omega
  have HL:Hid (mM B=oQ B (B.links.length-sp) sp (-1,0)):=lH (by unfold mM;rw[hsp]);have HSp:=lH hsp;clear hok hsp;go_enter Tryd.func19,Tryd.ntmps19
  go_wp2_with fail
  refine HC.out.mono ?_;rintro e w1 ⟨rfl,hb1⟩;have Hbw:=lH (HB0.out.trans (hb1.mono (by simp)));have k2:=aoF hb1 Hc2.out (nR _);clear hb1 HC
  go_wp2_with fail
  refine(c88 _ _ _ _ _ _ _ (by unfold maxLen;omega)).mono ?_;rintro e w2 ⟨rfl,hb2⟩;have hbA:bX w1.heap.size w1 w2:=(bM (bR _ _)).trans (hb2.mono (by simp));have j2:=aoF hbA k2 (nR _);have q0:w2.cell? ⟨w1.heap.size,0,none⟩=some (iN qi B.hours):=by rw[(ak hb2).1 _ _ (by simp)];go_simp
  have q1:w2.cell? ⟨w1.heap.size,1,none⟩=some (sL ta B.towns.length tc):=by rw[(ak hb2).1 _ _ (by simp)];go_simp
  have q2:w2.cell? ⟨w1.heap.size,2,none⟩=some (sL la B.links.length lc):=by rw[(ak hb2).1 _ _ (by simp)];go_simp
  have q3:w2.cell? ⟨w1.heap.size,3,none⟩=some (sL pa B.pairs.length pc):=by rw[(ak hb2).1 _ _ (by simp)];go_simp
  have Hb2:Hid (bX w.heap.size w w2):=lH (Hbw.out.trans (hbA.mono Hbw.out.size));have Hq:=lH (And.intro q0 (And.intro q1 (And.intro q2 (And.intro q3 j2))));clear hb2 hbA k2 q0 q1 q2 q3 j2
  go_wp2_with fail
  go_loopw [2,3,6] (fun a b i wr=> ∃(k:Nat) (x y:Int),sp<=k/\k<=B.links.length/\a= iN qi x/\b= iN qi y/\i= iN qi (k:Int)/\0<=y/\mM B=oQ B (B.links.length-k) k (x,y)/\bX w2.heap.size w2 wr) (fun _ _ i _=>B.links.length-(intOf i).toNat)
  case atStart=>exact⟨sp,-1,0,nR _,by have:=HSp.out;omega,rfl,rfl,rfl,by decide,HL.out,bR _ _⟩
  case round=>
   obtain⟨k,x,y,hk0,hk1,rfl,rfl,rfl,hy0,hbd,hb⟩:=hrel;obtain⟨q0,q1,q2,q3,j2⟩:=Hq.out;have p0:=aoF hb q0 (nR _);have p1:=aoF hb q1 (nR _);have p2:=aoF hb q2 (nR _);have p3:=aoF hb q3 (nR _);have i2:=aoF hb j2 (nR _);clear q0 q1 q2 q3 j2;have Hbd:=lH hbd;have Hb:=lH hb;clear hbd hb;have hbw:bX w.heap.size w wr:=Hb2.out.trans (Hb.out.mono Hb2.out.size);have Hbwr:=lH hbw;clear hbw;by_cases hlt:k<B.links.length
   ·have hst:=aag hlt (B:=B) (x,y);dsimp only at hst;have hlt':(k:Int)<(B.links.length:Int):=by omega
    have HCw:=lH (c89 ⟨ta,la,pa,tc,lc,pc⟩ B HG.out (k:Int) wr (Hs.out.below Hbwr.out (nR _)) (Hv.out.below Hbwr.out));by_cases hgt:y<kD B (k:Int)
    ·rw[if_pos hgt] at hst;have Hst:=lH (Hbd.out.trans hst);clear hst
     go_wp2_with fail
     refine HCw.out.mono ?_;rintro e w3 ⟨rfl,hwb,hb3⟩;have Hb3:=lH (Hb.out.trans (hb3.mono Hb.out.size));have Hwb:=lH hwb;clear hb3 HCw hwb;generalize kD B (k:Int)=wk at *;go_wp2;go_roundw
     case rel=>exact⟨k+1,(k:Int),wk,by omega,by omega,rfl,rfl,by go_num,by omega,Hst.out,Hb3.out⟩
     case measure=>simp[intOf];omega
    ·rw[if_neg hgt] at hst;have Hst:=lH (Hbd.out.trans hst);clear hst
     go_wp2_with fail
     refine HCw.out.mono ?_;rintro e w3 ⟨rfl,hwb,hb3⟩;have Hb3:=lH (Hb.out.trans (hb3.mono Hb.out.size));have Hwb:=lH hwb;clear hb3 HCw hwb;generalize kD B (k:Int)=wk at *;go_wp2;go_roundw
     case rel=>exact⟨k+1,x,y,by omega,by omega,rfl,rfl,by go_num,hy0,Hst.out,Hb3.out⟩
     case measure=>simp[intOf];omega
   ·have hlt': ¬(k:Int)<(B.links.length:Int):=by omega
    have Hst:Hid (mM B=(x,y)):=lH (by rw[Hbd.out,show B.links.length-k=0 by omega];rfl);go_wp2;refine bodyPost_ret (v:= .tuple #[iN qi x,iN qi y,iN qi 0]) (by simp[results,Tryd.results19,go_sem]) rfl ⟨?_,Hbwr.out⟩;rw[HE.out,Hst.out]
 ·have HE:Hid (oU B= .tuple #[iN qi 0,iN qi 0,iN qi B.alarm]):=lH (by unfold oU;rw[if_neg hok]);have Hok:=lH hok;rw[lC hok] at HC;have hne:(B.alarm != 0)=true:=by simpa using hok
  clear hok;go_enter Tryd.func19,Tryd.ntmps19
  go_wp2_with fail
  refine HC.out.mono ?_;rintro e w1 ⟨rfl,hb1⟩;have Hbw:=lH (HB0.out.trans (hb1.mono (by simp)));clear hb1;go_wp2;refine bodyPost_ret (v:= .tuple #[iN qi 0,iN qi 0,iN qi B.alarm]) (by simp[results,Tryd.results19,go_sem]) rfl ⟨by rw[HE.out],Hbw.out.trans ((bR _ _).alloc Hbw.out.size _)⟩
end Go.Proofs.YtfiiffnbggnkfaaDoor
