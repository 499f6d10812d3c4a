/- A part of the proof of a law; no conditions of its own. -/
import Derived.Test.YtfiiffnbggnkfaaDoorAv13
open Go renaming Addr→aD, Frame→fR, Goroutine→gO, Question→qS, Value→vL, World→wD
open Go.IntKind renaming i64→qi
open Go.Value renaming int→iN, slice→sL, pointer→pN
open Go.Ending renaming returned→rT
open Go.Obj renaming cells→cL
set_option maxRecDepth 100000
open Go renaming undef→ud
open Nat renaming le_refl→nR
open Go.Lib renaming hid→lH
open Go.RowKit.Below renaming refl→bR
open Go.Proofs.Tryd renaming prog→tP
open List renaming getElem?_eq_getElem→lG
open Array renaming getElem?_eq_some_iff→aS
open Go.World renaming block_lt_of_cell?→wBk
open List renaming getD_eq_getElem?_getD→lD
set_option maxHeartbeats 4000000
namespace Go.Tp
open Go.Conc Go.RowKit
def aN (f:FuncId):fR:={(default:fR) with fn:=f,kind:= .normal}
abbrev Bc (c:fR) (cs:List fR) (v:vL):gO:={frame:=c.finish v,callers:=cs,status:= .running,dying:=none}
theorem Ej {P:Program} {f:FuncId} {fn:Func} {c:Code} (args:Array vL) (hf:P.funcs[f]? =some fn) (hb:fn.body=some c):
  Frame.enter P f args .normal=(aN f).at {tmps:=args++Array.replicate (fn.ntmps-args.size) ud,defers:= []} [.code c]:=by
 simp[Frame.enter,Frame.at,hf,hb,aN]
theorem sK {P:Program} {ops:Array Oper} {Q:Exit->Act->wD->Prop} {i:Nat} {rest:List Nat} {o:Oper} {a:Act} {w w':wD} {v:vL} (ho:ops[i]? =some o) (hw:Region.wanted o (yielded ops a.tmps)=true)
  (hr:(execOp a.eval o).run P w= .ok (.value v) w') (h:wpOps P ops Q rest (a.put o.dst v) w'):wpOps P ops Q (i::rest) a w:=by
 unfold wpOps;simp only[ho];rw[if_pos hw];refine .inl ?_;unfold Oper.wp;rw[hr];exact h
theorem Yv {P:Program} (G':Good P) {f:FuncId} {fn:Func} {x:Code} {a:Act} {c:fR} {cs:List fR} {w:wD} {R:vL->wD->Prop} (hf:P.funcs[f]? =some fn)
    (hfine:Fine (G ((aN f).at a [.code x]) (c::cs)) w) (hR: ∀v w τ d,R v (w.tp τ d noJ)->R v w)
    (h: ∀τ,x.wp P (bodyPost P fn fun e w'=> ∃v,e= rT v/\R v w') a (w.tp τ 0 noJ)):
    Run P (gQ fun g w'=> ∃v,g=Bc c cs v/\R v w') (G ((aN f).at a [.code x]) (c::cs)) w:=by
  refine lJ G' (fun g w τ d ⟨v,e,r⟩=>⟨v,e,hR _ _ _ _ r⟩) hfine fun τ=> ?_;obtain⟨e,a',w',hq,harr⟩:=h τ (aN f) [] (c::cs);have fin: ∀fr,Steps P (lone ((aN f).at a [.code x]) (c::cs) (w.tp τ 0 noJ)) (lone fr (c::cs) w')-> ∀v,fr.leaving P w' (rT v)->R v w'->
      ∃n m',runN P n (oneG (G ((aN f).at a [.code x]) (c::cs)) (w.tp τ 0 noJ))= .next m'/\rX (fun g w'=> ∃v,g=Bc c cs v/\R v w') m':=by
    intro fr hs v hl hr;obtain⟨n,hn⟩:=hs.trans (.one (step_leave_returned hl));exact⟨n,_,hn,_,w',rfl,rfl,rfl,v,rfl,hr⟩
  cases e with
  |normal=>
    obtain⟨hd,v,hr,v',e,hR'⟩:=hq
    cases e
    exact fin _ (Steps.trans harr (.one step_end)) v ⟨rfl,hd,rfl,fn,hf,hr⟩ hR'
  |ret=>
    obtain⟨hd,v,hr,v',e,hR'⟩:=hq
    cases e
    obtain⟨todo,hs⟩:=harr;exact fin _ hs v ⟨rfl,hd,rfl,fn,hf,hr⟩ hR'
  |panic chain=>obtain⟨_,v,e,_⟩:=hq;cases e
  |exit id=>exact hq.elim
  |goto l=>exact hq.elim
  |outgrown=>obtain⟨v,e,_⟩:=hq;cases e
end Go.Tp
namespace Go.Proofs.YtfiiffnbggnkfaaDoor
open Go.RowKit Go.Rent Go.Tp Go.Conc
def iL (u:wD) (n:Nat):wD:={u with heap:=u.heap.extract 0 n}
theorem Lu {u:wD} {n:Nat} (h:n<=u.heap.size):(iL u n).heap.size=n:=by simp[iL];omega
theorem sN {u:wD} {n:Nat} {b:Nat} (h:b<n):(iL u n).heap[b]? =u.heap[b]? :=by
 simp only[iL];rw[Array.getElem?_extract];by_cases hb:b<u.heap.size
 ·rw[if_pos (by omega),Nat.zero_add]
 ·rw[if_neg (by omega),Array.getElem?_eq_none (by omega)]
theorem bT.old {w u:wD} {V:BkV} {B:Bk} (h:bT w V B) (hk: ∀b,b<w.heap.size-> ∀o,u.cell? ⟨b,o,none⟩=w.cell? ⟨b,o,none⟩):bT u V B:=by
 have e: ∀{b o:Nat} {v:vL},w.cell? ⟨b,o,none⟩=some v->u.cell? ⟨b,o,none⟩=some v:=fun {b o v} hc=>by
  rw[hk b (wBk w _ hc)];exact hc
 obtain⟨h1,h2,h3⟩:=h;constructor
 ·intro i t hi;obtain⟨b,o,x,y⟩:=h1 i t hi;exact⟨b,o,x,e y⟩
 ·intro i L hi;obtain⟨b,o,sa,sc,x,y1,y2,y3,z⟩:=h2 i L hi;exact⟨b,o,sa,sc,x,e y1,e y2,e y3,fun k s hk'=>by obtain⟨b',o',p,q,r⟩:=z k s hk';exact⟨b',o',p,e q,e r⟩⟩
 ·intro i L hi;obtain⟨b,o,sa,sc,x,y1,y2,y3,z⟩:=h3 i L hi;exact⟨b,o,sa,sc,x,e y1,e y2,e y3,fun k s hk'=>by obtain⟨b',o',p,q,r⟩:=z k s hk';exact⟨b',o',p,e q,e r⟩⟩
end Go.Proofs.YtfiiffnbggnkfaaDoor
namespace Go.Proofs.YtfiiffnbggnkfaaDoor
open Go.RowKit Go.Rent Go.Tp Go.Conc Go.ConcN
structure LkA (w:wD) (V:BkV) (B:Bk) (tb tofs tcap bb trb rA rB b5 b6:Nat) (w':wD):Prop where
 kept:Kept w.heap.size w w'
 lbb:w.heap.size<=bb
 ltr:w.heap.size<=trb
 lA:w.heap.size<=rA
 lB:w.heap.size<=rB
 l5:w.heap.size<=b5
 l6:w.heap.size<=b6
 ne:rA≠rB
 cA:jy w' rA
 cB:jy w' rB
 rb:w'.heap[bb]? =some (KY V B)
 rt:w'.heap[trb]? =some (cL #[sL (some ⟨tb,tofs,none⟩) B.links.length tcap] 42 (0,0))
 r5:w'.heap[b5]? =some (cL #[.chan (some rA)] 121 (0,0))
 r6:w'.heap[b6]? =some (cL #[.chan (some rB)] 121 (0,0))
def LkG (w:wD) (V:BkV) (B:Bk) (tb tofs tcap:Nat) (cc:List fR) (g:gO) (w':wD):Prop:=
 ∃bb trb rA rB b5 b6,LkA w V B tb tofs tcap bb trb rA rB b5 b6 w'/\
  g=G ((aN 41).at (LA (pN (some ⟨bb,0,none⟩)) (pN (some ⟨trb,0,none⟩)) (sL none 0 0) (pN (some ⟨b5,0,none⟩)) (pN (some ⟨b6,0,none⟩)) (.chan (some rA)) (.chan (some rB)) (V.val B) (sL (some ⟨tb,tofs,none⟩) B.links.length tcap)) [.code fV]) cc
theorem LkA.tp {w:wD} {V:BkV} {B:Bk} {tb tofs tcap bb trb rA rB b5 b6:Nat} {w':wD} {τ:Nat->qS->Nat} {d:Nat} (h:LkA w V B tb tofs tcap bb trb rA rB b5 b6 (w'.tp τ d noJ)):LkA w V B tb tofs tcap bb trb rA rB b5 b6 w':=by
 obtain⟨h0,h1,h2,h3,h4,h5,h6,h7,h8,h9,h10,h11,h12,h13⟩:=h;unfold jy at h8 h9;rw[oG] at h8 h9 h10 h11 h12 h13;refine⟨?_,h1,h2,h3,h4,h5,h6,h7,h8,h9,h10,h11,h12,h13⟩;have:=h0;rw[show w=w.tp w.tape w.drawn noJ from(dh w).symm] at this;have:=(Kept.tp w.tape τ w.drawn d).1 this;rwa [gJ] at this
def Em (w:wD) (B:Bk) (T:Nat->Int) (v:vL) (w':wD):Prop:=
 ∃(ob:Nat) (c:Array vL),v= sL (some ⟨ob,0,none⟩) B.hours.toNat B.hours.toNat/\w.heap.size<=ob/\w'.heap[ob]? =some (cL c 99 (0,0))/\iV B T B.hours.toNat (List.range B.hours.toNat) c/\Kept w.heap.size w w'
theorem Yw (V:BkV) (B:Bk) (ts:vL):Frame.enter tP 41 #[V.val B,ts] .normal=
  (aN 41).at ⟨#[V.val B,ts,ud,ud,ud,ud,ud,ud,ud,ud,ud,ud,ud,ud,ud,ud,ud,ud,ud,ud,ud,ud,ud,ud,ud,ud,ud,ud,ud,ud,ud,ud,ud,ud,ud,ud,ud,ud,ud,ud,ud,ud,ud,ud,ud,ud,ud,ud,ud,ud],[]⟩ [.code (Tryd.f41.body.getD .skip)]:=by
 rw[Ej (c:=Tryd.f41.body.getD .skip) _ Tryd.func41 (by rfl),Tryd.ntmps41];simp[BkV.val,Array.replicate,List.replicate]
theorem fB.cut {w u:wD} {V:BkV} {B:Bk} {tb tofs:Nat} {T:Nat->Int} (L:fB w V B tb tofs T) (hz:w.heap.size<=u.heap.size) (hc: ∀b,b<w.heap.size-> ∀o,u.cell? ⟨b,o,none⟩=w.cell? ⟨b,o,none⟩)
  (hr: ∀(b:Nat) c t z,w.heap[b]? =some (cL c t z)->u.heap[b]? =some (cL c t z)):fB (iL u w.heap.size) V B tb tofs T:=by
 have hsz:=Lu hz;have hcell: ∀b,b<w.heap.size-> ∀o,(iL u w.heap.size).cell? ⟨b,o,none⟩=w.cell? ⟨b,o,none⟩:=fun b hb o=>by
  rw[<-hc b hb o];exact World.cell?_of_block (w:=u) (sN hb)
 have hc1: ∀{b o:Nat} {v:vL},w.cell? ⟨b,o,none⟩=some v->(iL u w.heap.size).cell? ⟨b,o,none⟩=some v:=fun {b o v} h=>by
  rw[hcell b (wBk w _ h)];exact h
 have hrow: ∀{o:Option aD},bG w o->bG (iL u w.heap.size) o:=fun h a ha=>by
  obtain⟨c,t,z,h1⟩:=h a ha;exact⟨c,t,z,by rw[sN (aS.1 h1).1];exact hr _ _ _ _ h1⟩
 exact⟨L.fine,L.steps,L.book.old hcell,⟨fun k hk=>hc1 (L.tr.get k hk),L.tr.pos⟩,hrow L.ta,hrow L.la,hrow L.pa,hc1 L.g0,hc1 L.g1,by rw[hsz];exact L.gl⟩
structure RA' (a:Act) (ob n:Nat):Prop where
 size:a.tmps.size=50
 defers:a.defers= []
 e8:a.tmps[8]?.getD ud= sL (some ⟨ob,0,none⟩) n n
def LkB (w:wD) (B:Bk) (T:Nat->Int) (cc:List fR) (g:gO) (w':wD):Prop:=
 ∃(a:Act) (ob:Nat) (c:Array vL),RA' a ob B.hours.toNat/\w.heap.size<=ob/\w'.heap[ob]? =some (cL c 99 (0,0))/\iV B T B.hours.toNat (List.range B.hours.toNat) c/\Kept w.heap.size w w'/\g=G ((aN 41).at a [.code rend]) cc
theorem Yx:codeOk true rend=true:=by kernel_rfl
theorem Bd {α:Type} {n i:Nat} {x:α} {y:Option α} (h:(some x::List.replicate n none)[i]? =some y):(i=0/\y=some x)\/(i≠0/\y=none):=by
 cases i with
 |zero=>simp at h;exact .inl ⟨rfl,h.symm⟩
 |succ i=>
  simp only[List.getElem?_cons_succ,List.getElem?_replicate] at h
  split at h
  ·exact .inr ⟨by omega,(Option.some.inj h).symm⟩
  ·cases h
theorem Yy (w:wD) (V:BkV) (B:Bk) (tb tofs tcap:Nat) (T:Nat->Int) (L:fB w V B tb tofs T) (hs:Started w) (cc:List fR) (w1:wD) (bb trb rA rB b5 b6:Nat) (A:LkA w V B tb tofs tcap bb trb rA rB b5 b6 w1)
  (hfine:Fine (G ((aN 41).at (LA (pN (some ⟨bb,0,none⟩)) (pN (some ⟨trb,0,none⟩)) (sL none 0 0) (pN (some ⟨b5,0,none⟩)) (pN (some ⟨b6,0,none⟩)) (.chan (some rA)) (.chan (some rB)) (V.val B) (sL (some ⟨tb,tofs,none⟩) B.links.length tcap)) [.code fV]) cc) w1):
  LBn w.heap.size tP (gQ (LkB w B T cc)) (G ((aN 41).at (LA (pN (some ⟨bb,0,none⟩)) (pN (some ⟨trb,0,none⟩)) (sL none 0 0) (pN (some ⟨b5,0,none⟩)) (pN (some ⟨b6,0,none⟩)) (.chan (some rA)) (.chan (some rB)) (V.val B) (sL (some ⟨tb,tofs,none⟩) B.links.length tcap)) [.code fV]) cc) w1:=by
 intro Tp j hj gs d sl t q h0 hL hP;have hle:w.heap.size<=w1.heap.size:=A.kept.size;generalize hu:w1.tp Tp d j=u;have husz:u.heap.size=w1.heap.size:=by rw[<-hu,gJ]
 have huc: ∀{n:Nat} {c:Array vL} {t:TypeId} {z:Nat×Nat},w1.heap[n]? =some (cL c t z)->u.heap[n]? =some (cL c t z):=fun {n c t z} h=>by rw[<-hu];exact(CP _ _ _ hj n c t z).2 h
 have hcell: ∀b,b<w.heap.size-> ∀o,u.cell? ⟨b,o,none⟩=w.cell? ⟨b,o,none⟩:=fun b hb o=>by rw[<-hu,jV _ _ _ hj];exact A.kept.cell (p:=⟨b,o,none⟩) hb
 have L0:fB (iL u w.heap.size) V B tb tofs T:=L.cut (by omega) hcell fun b c t z h=>huc (by rw[A.kept.block b (aS.1 h).1];exact h);have hcs:(iL u w.heap.size).heap.size=w.heap.size:=Lu (by omega);have hgs:0<gs.size:=(aS.1 h0).1
 let φ:Ph:={n0:=gs.size,Hn:=B.hours.toNat,chA:=rA,chB:=rB,z0:= .agg #[iN qi 0,iN qi 0,iN qi 0],val:=fun k=>found B T k,isA:=fun k=>decide (0<=B.lackIn T true k),u0:=iL u w.heap.size,pos:=hgs,ne:=A.ne,lowA:=by rw[hcs];exact A.lA,lowB:=by rw[hcs];exact A.lB}
 let H0:Hold:=⟨fun b=>w.heap.size<=b/\b<u.heap.size/\b≠rA/\b≠rB,fun b=>b<w.heap.size⟩
 have hkid: ∀c,¬Kid φ 0 [] c:=fun c h=>by have h1:=h.1;have h2:=h.2.1;omega
 have hHn:(φ.Hn:Int)=B.hours:=by have:=L.fine.hours;show ((B.hours.toNat:Nat):Int)=B.hours;omega
 have hnoA: ∀{b:Nat} {c:Array vL} {t:TypeId} {z:Nat×Nat},w1.heap[b]? =some (cL c t z)->b≠rA/\b≠rB:=fun {b c t z} h=>by
  refine⟨fun e=> ?_,fun e=> ?_⟩
  ·subst e;have:=A.cA;unfold jy at this;rw[h] at this;cases this
  ·subst e;have:=A.cB;unfold jy at this;rw[h] at this;cases this
 have hmine: ∀{b:Nat} {c:Array vL} {t:TypeId} {z:Nat×Nat},w.heap.size<=b->w1.heap[b]? =some (cL c t z)->H0.mine b:=fun {b c t z} hb h=>⟨hb,by rw[husz];exact(aS.1 h).1,(hnoA h).1,(hnoA h).2⟩;have M:MK φ.u0 V B tb tofs tcap bb trb rA rB b5 b6 H0 u:=by
  refine⟨fun b hb=>(sN (by rw[<-hcs];exact hb)).symm,by show (iL u w.heap.size).heap.size<=u.heap.size;rw[hcs];omega,fun b hb=> .inr (by show b<w.heap.size;rw[<-hcs];exact hb),fun x hx=> ?_,huc A.rb,huc A.rt,huc A.r5,huc A.r6⟩;simp only[List.mem_cons,List.not_mem_nil,or_false] at hx
  rcases hx with rfl |rfl |rfl |rfl
  ·exact .inl (hmine A.lbb A.rb)
  ·exact .inl (hmine A.ltr A.rt)
  ·exact .inl (hmine A.l5 A.r5)
  ·exact .inl (hmine A.l6 A.r6)
 have hrun: ∀(Fin:Hold->gO->wD->Prop),(∀(H:Hold) (u:wD) (a:Act) (ob:Nat) (c:Array vL),φ.u0.heap.size<=ob->RA a b5 b6 ob φ.Hn B.hours φ.Hn->H.mine ob->u.heap[ob]? =some (cL c 99 (0,0))->iV B T φ.Hn (List.range φ.Hn) c->MV tP true Fin (H,G ((aN 41).at a [.code rend]) cc,u))->_:=
  fun Fin hrest=>Yr φ hHn Fin (aN 41) cc [] (by decide) rfl rfl rfl (fun _=>rfl) (fun _=>rfl) L0 hrest H0 u (sL none 0 0) (.chan (some rA)) (.chan (some rB)) (V.val B) (sL (some ⟨tb,tofs,none⟩) B.links.length tcap) M
 have hrun':=hrun (fun _ g u=> ∃a ob c,φ.u0.heap.size<=ob/\RA a b5 b6 ob φ.Hn B.hours φ.Hn/\u.heap[ob]? =some (cL c 99 (0,0))/\iV B T φ.Hn (List.range φ.Hn) c/\g=G ((aN 41).at a [.code rend]) cc) fun H u a ob c h1 h2 h3 h4 h5=> .stop rfl fun u' ho=>⟨a,ob,c,h1,h2,aY ho (.inl h3) h4,h5,rfl⟩;clear hrun;have hI:Inv tP φ (fun _ g u=> ∃a ob c,φ.u0.heap.size<=ob/\RA a b5 b6 ob φ.Hn B.hours φ.Hn/\u.heap[ob]? =some (cL c 99 (0,0))/\iV B T φ.Hn (List.range φ.Hn) c/\g=G ((aN 41).at a [.code rend]) cc) (φ.Hn+φ.Hn) 0 [] (some (H0,G ((aN 41).at (LA (pN (some ⟨bb,0,none⟩)) (pN (some ⟨trb,0,none⟩)) (sL none 0 0) (pN (some ⟨b5,0,none⟩)) (pN (some ⟨b6,0,none⟩)) (.chan (some rA)) (.chan (some rB)) (V.val B) (sL (some ⟨tb,tofs,none⟩) B.links.length tcap)) [.code fV]) cc,u)::List.replicate (gs.size-1) none) gs u t q (fun _=>H0):=by
  have hac: ∀i,Ac (Kid φ 0 []) i->i=0:=fun i h=>h.elim id fun h=>absurd h (hkid i);refine⟨by simp;omega,by omega,List.nodup_nil,by simp,fun _=>rfl,by simp;omega,rfl,fun i x hi=> ?_,fun i x h0 hi=> ?_,fun i g h0 hi hg=> .inr ⟨hkid i,hL.old i g (by omega) hg⟩,fun hi=> ?_, ?_,⟨fun i j b hi hj hij=> ?_,fun i j b hi hj hm hm'=> ?_⟩,fun i b _ hb=> ?_,fun i b _ hb=> ?_, ?_,hL.above,⟨0,0, ?_, ?_⟩⟩
  ·rcases Bd hi with ⟨rfl,e⟩ |⟨_,e⟩
   ·cases e;exact⟨h0,rfl,.refl _ _,rfl⟩
   ·cases e
  ·rcases Bd hi with ⟨rfl,e⟩ |⟨_,e⟩
   ·exact absurd rfl h0
   ·cases e
  ·rcases Bd hi with ⟨_,e⟩ |⟨h,_⟩
   ·cases e
   ·exact absurd rfl h
  ·have hke:Kid φ 0 []=fun _=>False:=funext fun c=>propext ⟨hkid c,False.elim⟩;rw[hke,husz];exact .of_past hP _
  ·exact absurd ((hac i hi).trans (hac j hj).symm) hij
  ·have h1:w.heap.size<=b:=hm.1;have h2:b<w.heap.size:=hm';omega
  ·have h3:=A.lA;have h4:=A.lB
   rcases hb with hb |hb
   ·exact⟨hb.2.1,hb.2.2.1,hb.2.2.2⟩
   ·have hb':b<w.heap.size:=hb;exact⟨by omega,by show b≠rA;omega,by show b≠rB;omega⟩
  ·show (iL u w.heap.size).heap.size<=b
   rw[hcs];exact hb.1
  ·exact⟨by show (iL u w.heap.size).heap.size<=_;rw[hcs];omega,fun b hb=>(sN (by rw[<-hcs];exact hb)).symm,rfl,rfl,rfl⟩
  ·have:=A.cA;unfold jy at this
   show u.heap[rA]? =_
   rw[<-hu,dX,this];rfl
  ·have:=A.cB;unfold jy at this
   show u.heap[rB]? =_
   rw[<-hu,dX,this];rfl
 obtain⟨N,gs',u',sl',t',q',g,H',hr,_,hg0,_,⟨a,ob,c,l1,l2,l3,l4,rfl⟩,hL',hP',hext⟩:=phase (φ.Hn+φ.Hn) 0 [] _ gs u sl t q (fun _=>H0) hI fun i x hi=>by
  rcases Bd hi with ⟨rfl,e⟩ |⟨_,e⟩
  ·cases e
   rw[AO];exact hrun'
  ·cases e
 have hl1:w.heap.size<=ob:=by rw[<-hcs];exact l1
 have hz':w.heap.size<=u'.heap.size:=by rw[<-hcs];exact hext.size
 have hT:u'.tape=Tp:=hext.same.1.trans (by show u.tape=Tp;rw[<-hu];rfl);have hk: ∀b,b<w.heap.size->u'.heap[b]? =(w.tp Tp d j).heap[b]? :=fun b hb=>by
  rw[hext.keep b (by show b<(iL u w.heap.size).heap.size;rw[hcs];exact hb)]
  show (iL u w.heap.size).heap[b]? =_
  rw[sN hb,<-hu,dX,dX,A.kept.block b hb]
 have hmt:=Lp (j:=j) hz' hk hT;refine⟨N,gs',_,mend w u',u'.drawn,lX w u' j,sl',t',q',⟨Ll hj,by rw[Ba];exact hz',fun n hn=>by unfold lX;rw[if_pos hn]⟩,by rw[hmt];exact hr,hg0,⟨⟨a,ob,c,⟨l2.size,l2.defers,l2.e8⟩,hl1,Ls hl1 l3,l4,⟨?_, ?_,by rw[Ba];exact hz',fun b hb=>Lm hz' hb⟩,rfl⟩,⟨⟨fun it hit=> ?_,fun dd hd=> ?_,(by decide:CallKind.normal≠CallKind.early)⟩,hfine.good.callers⟩,rfl,rfl,Lr hs⟩,hL',by rw[Ba];exact hP'⟩
 ·exact hext.same.2.1.trans ((by show u.os=w1.os;rw[<-hu];rfl:φ.u0.os=w1.os).trans A.kept.os)
 ·exact hext.same.2.2.trans ((by show u.output=w1.output;rw[<-hu];rfl:φ.u0.output=w1.output).trans A.kept.output)
 ·simp only[G,Frame.at,List.mem_singleton] at hit;subst hit;exact Yx
 ·simp only[G,Frame.at,l2.defers] at hd
  cases hd
theorem LC (w:wD) (V:BkV) (B:Bk) (tb tofs tcap:Nat) (T:Nat->Int) (L:fB w V B tb tofs T):
  iK tP 41 #[V.val B,sL (some ⟨tb,tofs,none⟩) B.links.length tcap] w (Em w B T):=by
 intro c cs hc hcs hs;have hf0:Fine {frame:=Frame.enter tP 41 #[V.val B,sL (some ⟨tb,tofs,none⟩) B.links.length tcap] .normal,callers:=c::cs,status:= .running,dying:=none} w:=
  ⟨⟨nG good.bodies _ _ (by decide),fun x hx=>(List.mem_cons.1 hx).elim (fun e=>e▸hc) (hcs x)⟩,rfl,rfl,hs⟩
 refine Ef (Stop:=gQ (LkG w V B tb tofs tcap (c::cs))) (nM (lJ good (fun g w' τ d ⟨bb,trb,rA,rB,b5,b6,h,e⟩=>⟨bb,trb,rA,rB,b5,b6,h.tp,e⟩) hf0 fun τ=> ?_)) ?_
 ·obtain⟨it,a',w',hq,n,hn⟩:=Yg V B (some ⟨tb,tofs,none⟩) B.links.length tcap (w.tp τ 0 noJ) (fun it a w'=> ∃bb trb rA rB b5 b6,LkA w V B tb tofs tcap bb trb rA rB b5 b6 w'/\it= [.code fV]/\a=LA (pN (some ⟨bb,0,none⟩)) (pN (some ⟨trb,0,none⟩)) (sL none 0 0) (pN (some ⟨b5,0,none⟩)) (pN (some ⟨b6,0,none⟩)) (.chan (some rA)) (.chan (some rB)) (V.val B) (sL (some ⟨tb,tofs,none⟩) B.links.length tcap))
   (fun bb trb rA rB b5 b6 w' hbel h1 h2 h3 h4 h5 h6 h7 _ h8 h9 h10 h11 h12 h13=>by
    rw[gJ] at hbel h1 h2 h3 h4 h5 h6;refine⟨bb,trb,rA,rB,b5,b6,⟨?_,h1,h2,h3,h4,h5,h6,h7,h8,h9,h10,h11,h12,h13⟩,rfl,rfl⟩;have:=Kept.of_below hbel;rw[<-dh w'] at this;have:=(Kept.tp τ w'.tape 0 w'.drawn).1 this;exact this) (aN 41) [] (c::cs)
  obtain⟨bb,trb,rA,rB,b5,b6,hA,rfl,rfl⟩:=hq;rw[Yw];exact⟨n,_,hn,_,w',rfl,rfl,rfl,bb,trb,rA,rB,b5,b6,hA,rfl⟩
 ·rintro g1 w1 _ ⟨⟨bb,trb,rA,rB,b5,b6,A,rfl⟩,hfine⟩;refine Ef (Stop:=gQ (LkB w B T (c::cs))) (Yy w V B tb tofs tcap T L hs (c::cs) w1 bb trb rA rB b5 b6 A hfine) ?_;rintro g2 w2 hz2 ⟨⟨a,ob,cc,⟨hsz,hdf,e8⟩,l1,l2,l3,l4,rfl⟩,hfine2⟩;refine Lj (nM (Yv good Tryd.func41 hfine2 (fun v w' τ d hr=> ?_) fun τ=> ?_)) hz2
  ·obtain⟨ob,c,h1,h2,h3,h4,h5⟩:=hr;rw[oG] at h3;refine⟨ob,c,h1,h2,h3,h4, ?_⟩;rw[show w=w.tp w.tape w.drawn noJ from(dh w).symm] at h5;have:=(Kept.tp w.tape τ w.drawn d).1 h5;rwa [gJ] at this
  ·simp only[rend,lW,fV,Tryd.f41];have hp1:=kP a (d:=49) (sL (some ⟨ob,0,none⟩) B.hours.toNat B.hours.toNat) (by rw[hsz];decide);have hp2:=kP (a.put (some 49) (sL (some ⟨ob,0,none⟩) B.hours.toNat B.hours.toNat)) (d:=4) (sL (some ⟨ob,0,none⟩) B.hours.toNat B.hours.toNat) (by rw[hp1.size,hsz];decide);refine wp_seq (wp_region (sK rfl rfl (v:= sL (some ⟨ob,0,none⟩) B.hours.toNat B.hours.toNat) (w':=w2.tp τ 0 noJ) (by simp[go_sem,e8]) (sK rfl rfl (w':=w2.tp τ 0 noJ) (v:= sL (some ⟨ob,0,none⟩) B.hours.toNat B.hours.toNat) ?_ (wp_ret ?_))))
   ·have:=hp1.same;simp only[Act.put] at this;simp[go_sem,this]
   ·refine⟨hp2.defers.trans (hp1.defers.trans hdf),sL (some ⟨ob,0,none⟩) B.hours.toNat B.hours.toNat, ?_,_,rfl,ob,cc,rfl,l1, ?_,l3, ?_⟩
    ·have:=hp2.same;simp only[Act.put] at this;simp[results,go_sem,this]
    ·rw[oG];exact l2
    ·have:=(Kept.tp (n:=w.heap.size) (w:=w) (w':=w2) w.tape τ w.drawn 0).2 l4;rwa [dh] at this
end Go.Proofs.YtfiiffnbggnkfaaDoor
namespace Go.Tp
open Go.Conc Go.RowKit
section
variable {P:Program} {f:FuncId} {R:vL->wD->Prop} {a:Act} {w:wD} {it kk:List Item} {ops:Array Oper} {i:Nat} {rest:List Nat} {o:Oper}
theorem LD {Stop:gO->wD->Prop} {g:gO} {w:wD} {τ:Nat->qS->Nat} {d:Nat} (h:LB P Stop g (w.tp τ d noJ)):LB P Stop g w:=by
 intro T j hj gs d' sl t q h0 hL hP;have:=h T j hj gs d' sl t q h0 hL (by rw[gJ];exact hP);rw[dS,gJ] at this;exact this
theorem LG {g:gO} {w:wD} (h:Fine g w) (τ:Nat->qS->Nat) (d:Nat):Fine g (w.tp τ d noJ):=⟨h.good,h.alive,h.runs,nD h.started τ d⟩
def Sat (R:vL->wD->Prop):vL->wD->Prop:=fun v w=> ∃τ d,R v (w.tp τ d noJ)
def Yz (P:Program) (f:FuncId) (cs:List fR) (g:gO) (w:wD) (v:vL):Prop:=match cs with
 | []=> ∃fr,g=G fr []/\fr.fn=f/\fr.leaving P w (rT v)
 |c::cs=>g=Bc c cs v
abbrev qK (P:Program) (f:FuncId) (R:vL->wD->Prop) (cs:List fR) (g:gO) (w:wD):Prop:= ∃v τ d,Yz P f cs g (w.tp τ d noJ) v/\R v (w.tp τ d noJ)
theorem LK {cs:List fR} {g:gO} {w:wD} (τ:Nat->qS->Nat) (d:Nat) (h:qK P f R cs g (w.tp τ d noJ)):qK P f R cs g w:=by
 obtain⟨v,τ',d',e,r⟩:=h;exact⟨v,τ',d',by rwa [dS] at e,by rwa [dS] at r⟩
theorem En {m:Machine} {fr:fR} {cs:List fR} {w:wD} {v:vL} (hs:Steps P m (lone fr cs w)) (hfn:fr.fn=f) (hl:fr.leaving P w (rT v)) (hr:R v w): ∃n g,runN P n m= .next (oneG g w)/\g.status= .running/\g.dying=none/\qK P f R cs g w:=by
 cases cs with
 |nil=>
  obtain⟨n,hn⟩:=hs;exact⟨n,G fr [],hn,rfl,rfl,v,w.tape,w.drawn,by rw[dh];exact⟨fr,rfl,hfn,hl⟩,by rwa [dh]⟩
 |cons c cs=>
  obtain⟨n,hn⟩:=hs.trans (.one (step_leave_returned hl));exact⟨n,Bc c cs v,hn,rfl,rfl,v,w.tape,w.drawn,rfl,by rwa [dh]⟩
def GL (P:Program) (f:FuncId) (it:List Item) (R:vL->wD->Prop) (a:Act) (w:wD):Prop:=
 ∀(cs:List fR),Fine (G ((aN f).at a it) cs) w->LB P (gQ (qK P f R cs)) (G ((aN f).at a it) cs) w
theorem qL {τ:Nat->qS->Nat} {d:Nat} (h:GL P f it R a (w.tp τ d noJ)):GL P f it R a w:=fun cs hf=>LD (h cs (LG hf τ d))
theorem GL.mono {R':vL->wD->Prop} (h:GL P f it R a w) (k: ∀v w,R v w->R' v w):GL P f it R' a w:=
 fun cs hf=>Eh (h cs hf) fun _ _ ⟨⟨v,τ,d,e,r⟩,hf'⟩=>⟨⟨v,τ,d,e,k _ _ r⟩,hf'⟩
theorem Eo (G':Good P) (S:List Item->Act->wD->Prop) (h: ∀τ,∃it' a' w',S it' a' w'/\ ∀cc,Steps P (lone ((aN f).at a it) cc (w.tp τ 0 noJ)) (lone ((aN f).at a' it') cc w'))
  (k: ∀it' a' w',S it' a' w'->GL P f it' R a' w'):GL P f it R a w:=by
 intro cs hf;refine qI (Stop:=gQ fun g w'=> ∃it' a' τ d,g=G ((aN f).at a' it') cs/\S it' a' (w'.tp τ d noJ)) (nM (lJ G' (fun g w' τ d ⟨it',a',τ',d',e,s⟩=>⟨it',a',τ',d',e,by rwa [dS] at s⟩) hf fun τ=> ?_)) ?_
 ·obtain⟨it',a',w',hs,hst⟩:=h τ;obtain⟨n,hn⟩:=hst cs;exact⟨n,_,hn,_,w',rfl,rfl,rfl,it',a',w'.tape,w'.drawn,rfl,by rwa [dh]⟩
 ·rintro g w' ⟨⟨it',a',τ,d,rfl,hs⟩,hf'⟩;exact qL (k it' a' _ hs) cs hf'
theorem kU (G':Good P) {it':List Item} (h: ∀w cc,step P (lone ((aN f).at a it) cc w)= .next (lone ((aN f).at a it') cc w)) (k:GL P f it' R a w):GL P f it R a w:=
 Eo G' (fun i b u=>i=it'/\b=a/\ ∃τ,u=w.tp τ 0 noJ) (fun τ=>⟨it',a,_,⟨rfl,rfl,τ,rfl⟩,fun cc=> .one (h _ cc)⟩) fun i b u ⟨e1,e2,τ,e3⟩=>by
  subst e1 e2 e3;intro cs hf;have:=k cs (by
   have:=LG hf w.tape w.drawn;rwa [dS,dh] at this)
  intro T j hj gs d sl t q h0 hL hP;have h2:=this T j hj gs d sl t q h0 hL (by rw[gJ] at hP;exact hP);rw[dS,gJ];exact h2
theorem kV (G':Good P) {x y:Code} (h:GL P f (.code x:: .code y::kk) R a w):GL P f (.code (.seq x y)::kk) R a w:=kU G' (fun _ _=>step_seq) h
theorem LM (G':Good P) (h:GL P f kk R a w):GL P f (.code .skip::kk) R a w:=kU G' (fun _ _=>step_skip) h
theorem oJ (G':Good P) {id:Nat} (h:GL P f (.inRegion ops (List.range ops.size)::kk) R a w):GL P f (.code (.region id ops false)::kk) R a w:=kU G' (fun _ _=>step_region) h
theorem lY (G':Good P) (h:GL P f kk R a w):GL P f (.inRegion ops []::kk) R a w:=kU G' (fun _ _=>step_region_end) h
theorem sO (G':Good P) {c:Operand} {x y:Code} (t:Bool) (hc:a.eval c= .bool t) (h:GL P f (.code (if t then x else y)::kk) R a w):GL P f (.code (.cond c x y)::kk) R a w:=kU G' (fun _ _=>step_cond hc) h
theorem LP (G':Good P) {id:Nat} {x:Code} (h:GL P f (.code x:: .inBlock id::kk) R a w):GL P f (.code (.block id x)::kk) R a w:=kU G' (fun _ _=>step_lone_go (by simp[stepG,stepG.exec,Frame.at,GStep.bare,aN])) h
theorem YB (G':Good P) {id:Nat} (h:GL P f kk R a w):GL P f (.inBlock id::kk) R a w:=kU G' (fun _ _=>step_lone_go (by simp[stepG,stepG.exec,Frame.at,GStep.bare,aN])) h
theorem YC (G':Good P) {x:Code} (h:GL P f (.code x:: .inLoop x::kk) R a w):GL P f (.code (.loop x)::kk) R a w:=kU G' (fun _ _=>step_lone_go (by simp[stepG,stepG.exec,Frame.at,GStep.bare,aN])) h
theorem YD (G':Good P) {x:Code} (h:GL P f (.code x:: .inLoop x::kk) R a w):GL P f (.inLoop x::kk) R a w:=kU G' (fun _ _=>step_lone_go (by simp[stepG,stepG.exec,Frame.at,GStep.bare,aN])) h
theorem YE (G':Good P) {id:Nat} {k':List Item} (he:exitTo id kk=some k') (h:GL P f k' R a w):GL P f (.code (.exit id)::kk) R a w:=kU G' (fun _ _=>step_lone_go (by simp[stepG,stepG.exec,Frame.at,GStep.bare,aN,he])) h
theorem Bf (G':Good P) (ho:ops[i]? =some o) (hw:Region.wanted o (yielded ops a.tmps)=false) (h:GL P f (.inRegion ops rest::kk) R (a.put o.dst ud) w):GL P f (.inRegion ops (i::rest)::kk) R a w:=
  Eo G' (fun it b u=>it= .inRegion ops rest::kk/\b=a.put o.dst ud/\ ∃τ,u=w.tp τ 0 noJ) (fun τ=>⟨_,_,_,⟨rfl,rfl,τ,rfl⟩,fun cc=> .one (by
      have:=step_op_skip (P:=P) (b:=aN f) (a:=a) (k:=kk) (cs:=cc) (w:=w.tp τ 0 noJ) (ops:=ops) (i:=i) (rest:=rest) (by simp[ho,hw]);rw[this,ho];rfl)⟩) fun it b u ⟨e1,e2,τ,e3⟩=>by
    subst e1 e2 e3;exact qL (τ:=w.tape) (d:=w.drawn) (by rw[dS,dh];exact h)
theorem LQ (G':Good P) (S:vL->wD->Prop) (ho:ops[i]? =some o) (hw:Region.wanted o (yielded ops a.tmps)=true) (hr: ∀τ,∃v w',(execOp a.eval o).run P (w.tp τ 0 noJ)= .ok (.value v) w'/\S v w')
  (h: ∀v w',S v w'->GL P f (.inRegion ops rest::kk) R (a.put o.dst v) w'):GL P f (.inRegion ops (i::rest)::kk) R a w:=by
 refine Eo G' (fun it b u=> ∃v,it= .inRegion ops rest::kk/\b=a.put o.dst v/\S v u) (fun τ=> ?_) fun it b u ⟨v,e1,e2,hs⟩=>by subst e1 e2;exact h v u hs
 obtain⟨v,w',hr',hs⟩:=hr τ;refine⟨_,_,w',⟨v,rfl,rfl,hs⟩,fun cc=> .one (step_lone_go ?_)⟩
 change (stepG P true (G ((aN f).at a (.inRegion ops (i::rest)::kk)) cc) (w.tp τ 0 noJ)).bare=_
 rw[stepG_value ho hw (by intro e;cases e) hr'];rfl
theorem sQ (G':Good P) {fn:Func} {x:Code} (S:Act->wD->Prop) (hf:P.funcs[f]? =some fn)
  (h: ∀τ,x.wp P (Exit.then S (bodyPost P fn fun e w'=> ∃v,e= rT v/\R v w')) a (w.tp τ 0 noJ)) (k: ∀a' w',S a' w'->GL P f kk R a' w'):GL P f (.code x::kk) R a w:=by
 intro cs hfine;refine qI (Stop:=gQ fun g w'=>(∃a' τ d,g=G ((aN f).at a' kk) cs/\S a' (w'.tp τ d noJ))\/qK P f R cs g w') (nM (lJ G' (fun g w' τ d hs=> ?_) hfine fun τ=> ?_)) ?_
 ·rcases hs with ⟨a',τ',d',e,s⟩ |h
  ·exact .inl ⟨a',τ',d',e,by rwa [dS] at s⟩
  ·exact .inr (LK τ d h)
 ·obtain⟨e,a',w',hq,harr⟩:=h τ (aN f) kk cs
  cases e with
  |normal=>
   obtain⟨n,hn⟩:=harr;exact⟨n,_,hn,_,w',rfl,rfl,rfl,.inl ⟨a',w'.tape,w'.drawn,rfl,by rwa [dh]⟩⟩
  |ret=>
   obtain⟨hd,v,hr,v',e,hR'⟩:=hq
   cases e
   obtain⟨todo,hs⟩:=harr;obtain⟨n,g,h1,h2,h3,h4⟩:=En (R:=R) (fr:={(aN f).at a' todo with mode:= .returning}) hs rfl ⟨rfl,hd,rfl,fn,hf,hr⟩ hR';exact⟨n,_,h1,g,w',rfl,h2,h3,.inr h4⟩
  |panic chain=>obtain⟨_,v,e,_⟩:=hq;cases e
  |exit id=>exact hq.elim
  |goto l=>exact hq.elim
  |outgrown=>obtain⟨v,e,_⟩:=hq;cases e
 ·rintro g w' ⟨⟨a',τ,d,rfl,hs⟩ |hr,hf'⟩
  ·exact qL (k a' _ hs) cs hf'
  ·exact Lh ⟨hr,hf'⟩
theorem Bg (G':Good P) {fn:Func} {x:Code} (hf:P.funcs[f]? =some fn) (h: ∀τ,x.wp P (bodyPost P fn fun e w'=> ∃v,e= rT v/\R v w') a (w.tp τ 0 noJ)):GL P f [.code x] R a w:=by
 intro cs hfine;refine nM (lJ G' (Stop:=qK P f R cs) (fun g w' τ d h=>LK τ d h) hfine fun τ=> ?_);obtain⟨e,a',w',hq,harr⟩:=h τ (aN f) [] cs
 cases e with
 |normal=>
  obtain⟨hd,v,hr,v',e,hR'⟩:=hq
  cases e
  obtain⟨n,g,h1,h2,h3,h4⟩:=En (R:=R) (Steps.trans harr (.one step_end)) rfl ⟨rfl,hd,rfl,fn,hf,hr⟩ hR';exact⟨n,_,h1,g,w',rfl,h2,h3,h4⟩
 |ret=>
  obtain⟨hd,v,hr,v',e,hR'⟩:=hq
  cases e
  obtain⟨todo,hs⟩:=harr;obtain⟨n,g,h1,h2,h3,h4⟩:=En (R:=R) (fr:={(aN f).at a' todo with mode:= .returning}) hs rfl ⟨rfl,hd,rfl,fn,hf,hr⟩ hR';exact⟨n,_,h1,g,w',rfl,h2,h3,h4⟩
 |panic chain=>obtain⟨_,v,e,_⟩:=hq;cases e
 |exit id=>exact hq.elim
 |goto l=>exact hq.elim
 |outgrown=>obtain⟨v,e,_⟩:=hq;cases e
theorem qM (G':Good P) {g:FuncId} {args:Array vL} {R1:vL->wD->Prop} (ho:ops[i]? =some o) (hw:Region.wanted o (yielded ops a.tmps)=true)
  (hr: ∀u,(execOp a.eval o).run P u= .ok (.enter g args) u) (hcall:iK P g args w R1)
  (k: ∀v w',R1 v w'->GL P f (.inRegion ops rest::kk) R (a.put o.dst v) w'):GL P f (.inRegion ops (i::rest)::kk) R a w:=by
 intro cs hfine;have hfo:=hfine.good.frame;have hcs:=hfine.good.callers;refine qI (Stop:=gQ fun g' u=>g'={frame:=Frame.enter P g args .normal,callers:=(aN f).at a (.inRegion ops (i::rest)::kk)::cs,status:= .running,dying:=none}/\ ∃τ d,u.tp τ d noJ=w) (nM (lJ G' (fun g w' τ d ⟨e,τ',d',h⟩=>⟨e,τ',d',by rwa [dS] at h⟩) hfine fun τ=> ?_)) ?_
 ·refine⟨1,lone (Frame.enter P g args .normal) ((aN f).at a (.inRegion ops (i::rest)::kk)::cs) (w.tp τ 0 noJ), ?_,_,_,rfl,rfl,rfl,rfl,w.tape,w.drawn,by rw[dS,dh]⟩;have hs:step P (lone ((aN f).at a (.inRegion ops (i::rest)::kk)) cs (w.tp τ 0 noJ))= .next (lone (Frame.enter P g args .normal) ((aN f).at a (.inRegion ops (i::rest)::kk)::cs) (w.tp τ 0 noJ)):=by
   refine step_lone_go ?_
   change (stepG P true (G ((aN f).at a (.inRegion ops (i::rest)::kk)) cs) (w.tp τ 0 noJ)).bare=_
   rw[stepG_oper ho hw];simp[stepG.apply,hr,Frame.at,aN,GStep.after,GStep.bare]
  exact congrArg (fun s=>match s with |Stepped.next m=>Stepped.next m |e=>e) hs
 ·rintro g' u ⟨⟨rfl,τ,d,hu⟩,hf'⟩;refine LD (τ:=τ) (d:=d) ?_;rw[hu];have hcaller:aP ((aN f).at a (.inRegion ops (i::rest)::kk)):=hfo;refine qI (hcall _ _ hcaller hcs hfine.started) ?_;rintro g2 w2 ⟨⟨v,rfl,hv⟩,hf2⟩;have hfin:((aN f).at a (.inRegion ops (i::rest)::kk)).finish v=(aN f).at (a.put o.dst v) (.inRegion ops rest::kk):=by rw[Frame.finish_at,ho];rfl
  rw[hfin] at hf2 ⊢;exact k v w2 hv cs hf2
theorem Bh {fn:Func} {x:Code} {args:Array vL} (G':Good P) (hf:P.funcs[f]? =some fn) (hb:fn.body=some x) (h:GL P f [.code x] R {tmps:=args++Array.replicate (fn.ntmps-args.size) ud,defers:= []} w):iK P f args w (Sat R):=by
 intro c cs hc hcs hs;have hok:aP (Frame.enter P f args .normal):=nG G'.bodies _ _ (by decide);rw[Ej args hf hb] at hok ⊢;exact Eh (h (c::cs) ⟨⟨hok,fun y hy=>(List.mem_cons.1 hy).elim (fun e=>e▸hc) (hcs y)⟩,rfl,rfl,hs⟩) fun g w' ⟨⟨v,τ,d,e,r⟩,hf'⟩=>⟨⟨v,e,τ,d,r⟩,hf'⟩
end
end Go.Tp
namespace Go.Proofs.YtfiiffnbggnkfaaDoor
open Go.RowKit Go.Rent Go.Tp Go.Conc
section
variable {P:Program} {Q:List Item->Act->wD->Prop} {a:Act} {w:wD} {it:List Item} {ops:Array Oper} {i:Nat} {rest:List Nat} {o:Oper}
theorem sS {it':List Item} {a':Act} {w':wD} (hs: ∀(b:fR) (k:List Item) (cs:List fR),step P (lone (b.at a (it++k)) cs w)= .next (lone (b.at a' (it'++k)) cs w')) (h:Comes P it' Q a' w'):Comes P it Q a w:=by
 intro b k cs;obtain⟨it2,a2,w2,q,s⟩:=h b k cs;exact⟨it2,a2,w2,q,.head (hs b k cs) s⟩
theorem aK {x y:Code} (h:Comes P (.code x:: .code y::it) Q a w):Comes P (.code (.seq x y)::it) Q a w:=sS (fun _ _ _=>step_seq) h
theorem qN {id:Nat} (h:Comes P (.inRegion ops (List.range ops.size)::it) Q a w):Comes P (.code (.region id ops false)::it) Q a w:=sS (fun _ _ _=>step_region) h
theorem Bj (h:Comes P it Q a w):Comes P (.inRegion ops []::it) Q a w:=sS (fun _ _ _=>step_region_end) h
theorem bg {x:Code} (h:x.wp P (Exit.then (fun a w=>Comes P it Q a w) Gone) a w):Comes P (.code x::it) Q a w:=by
 intro b k cs;obtain⟨e,a1,w1,hq,harr⟩:=h b (it++k) cs
 cases e with
 |normal=>
  obtain⟨it',a',w',q,s⟩:=hq b k cs;exact⟨it',a',w',q,Steps.trans harr s⟩
 |_=>exact hq.elim
theorem dF {w1:wD} {v:vL} (ho:ops[i]? =some o) (hw:Region.wanted o (yielded ops a.tmps)=true) (hr:(execOp a.eval o).run P w= .ok (.value v) w1) (h:Comes P (.inRegion ops rest::it) Q (a.put o.dst v) w1):Comes P (.inRegion ops (i::rest)::it) Q a w:=by
 refine sS (fun b k cs=>step_lone_go ?_) h;have hg:=stepG_op (P:=P) (b:=b) (k:=it++k) (cs:=cs) (w:=w) (rest:=rest) ho hw;have hfin: ∀v,(b.at a (.inRegion ops (i::rest)::(it++k))).finish v=b.at (a.put o.dst v) (.inRegion ops rest::(it++k)):=by
  intro v;rw[Frame.finish_at,ho];rfl
 change (stepG P true {frame:=b.at a (.inRegion ops (i::rest)::(it++k)),callers:=cs,status:= .running,dying:=none} w).bare=_
 rw[hg]
 show _=GStep.go {frame:=b.at (a.put o.dst v) (.inRegion ops rest::(it++k)),callers:=cs,status:= .running,dying:=none} w1
 rw[<-hfin];simp[stepG.apply,hr]
theorem jM (G':Tp.Good P) {f:FuncId} {R:vL->wD->Prop} (h: ∀τ,Comes P it Q a (w.tp τ 0 noJ)) (k: ∀it' a' w',Q it' a' w'->GL P f it' R a' w'):GL P f it R a w:=by
 intro cs hf;refine qI (Stop:=gQ fun g w'=> ∃it' a' τ d,g=G ((aN f).at a' it') cs/\Q it' a' (w'.tp τ d noJ)) (nM (lJ G' (fun g w' τ d ⟨it',a',τ',d',e,s⟩=>⟨it',a',τ',d',e,by rwa [dS] at s⟩) hf fun τ=> ?_)) ?_
 ·obtain⟨it',a',w',hs,n,hn⟩:=h τ (aN f) [] cs;rw[List.append_nil,List.append_nil] at hn;exact⟨n,_,hn,_,w',rfl,rfl,rfl,it',a',w'.tape,w'.drawn,rfl,by rwa [dh]⟩
 ·rintro g w' ⟨⟨it',a',τ,d,rfl,hs⟩,hf'⟩;exact qL (k it' a' _ hs) cs hf'
end
section
variable {w:wD} {τ:Nat->qS->Nat} {d:Nat}
theorem bV (a:aD):(w.tp τ d noJ).cell? a=w.cell? a:=jV w τ d lF a
theorem jO:(w.tp τ d noJ).heap.size=w.heap.size:=gJ _ _ _ _
end
section
variable {w:wD} {τ:Nat->qS->Nat} {d:Nat}
theorem SlI.tp {sa:Option aD} {xs:List Int} (h:SlI w sa xs):SlI (w.tp τ d noJ) sa xs:=fun i x hx=>by obtain⟨b,o,e,h0⟩:=h i x hx;exact⟨b,o,e,by rw[bV];exact h0⟩
theorem SlB.tp {sa:Option aD} {xs:List (Int×Int)} (h:SlB w sa xs):SlB (w.tp τ d noJ) sa xs:=fun i x hx=>by obtain⟨b,o,e,h0,h1⟩:=h i x hx;exact⟨b,o,e,by rw[bV];exact h0,by rw[bV];exact h1⟩
theorem SlS.tp {sa:Option aD} {xs:List ByteArray} (h:SlS w sa xs):SlS (w.tp τ d noJ) sa xs:=fun i x hx=>by obtain⟨b,o,e,h0⟩:=h i x hx;exact⟨b,o,e,by rw[bV];exact h0⟩
theorem jr.tp {la:Option aD} {ls:List Lnk} (h:jr w la ls):jr (w.tp τ d noJ) la ls:=fun i L hi=>by
 obtain⟨b,o,sa,sc,h1,h2,h3,h4,h5,h6⟩:=h i L hi;exact⟨b,o,sa,sc,h1,by rw[bV];exact h2,by rw[bV];exact h3,by rw[bV];exact h4,h5.tp,h6⟩
theorem jv.tp {la:Option aD} {ls:List Pr} (h:jv w la ls):jv (w.tp τ d noJ) la ls:=fun i L hi=>by
 obtain⟨b,o,sa,sc,h1,h2,h3,h4,h5,h6⟩:=h i L hi;exact⟨b,o,sa,sc,h1,by rw[bV];exact h2,by rw[bV];exact h3,by rw[bV];exact h4,h5.tp,h6⟩
theorem aB.tp {V:BkV} {B:Bk} (h:aB w V B):aB (w.tp τ d noJ) V B:=⟨h.towns.tp,h.links.tp,h.pairs.tp,h.nt,h.nl,h.np,h.tc⟩
theorem iG.tp (h:iG w):iG (w.tp τ d noJ):=⟨by rw[bV];exact h.c0,by rw[bV];exact h.c1,by rw[bV];exact h.c2,by rw[bV];exact h.c3⟩
end
structure Vars (w:wD):Prop where
 v2:iG w
 g0:w.cell? ⟨0,0,none⟩=some (.func (.func 116) #[] #[])
 g1:w.cell? ⟨1,0,none⟩=some (.func (.func 117) #[] #[])
 gl:tP.globals.size<=w.heap.size
structure fH (w:wD) (V:BkV):Prop where
 ta:bG w V.ta
 la:bG w V.la
 pa:bG w V.pa
section
variable {w w':wD}
theorem dV {n:Nat} (h:Kept n w w') (hn:w.heap.size<=n) {b o:Nat} {v:vL} (hc:w.cell? ⟨b,o,none⟩=some v):w'.cell? ⟨b,o,none⟩=some v:=by
 rw[h.cell (p:=⟨b,o,none⟩) (Nat.lt_of_lt_of_le (wBk w _ hc) hn)];exact hc
theorem _root_.Go.Tp.Kept.below {n:Nat} (h:Kept n w w'):Below n w (w'.tp w.tape w'.drawn noJ):=⟨h.os,rfl,h.output,by rw[gJ];exact h.size,fun k hk=>by rw[oG];exact h.block k hk⟩
theorem aB.kept {V:BkV} {B:Bk} (h:aB w V B) (hk:Kept w.heap.size w w'):aB w' V B:=by
 have:=(h.below hk.below (nR _)).tp (τ:=w'.tape) (d:=w'.drawn);rwa [dS,dh] at this
theorem SlI.kept {sa:Option aD} {xs:List Int} (h:SlI w sa xs) (hk:Kept w.heap.size w w'):SlI w' sa xs:=by
 have:=(h.below hk.below (nR _)).tp (τ:=w'.tape) (d:=w'.drawn);rwa [dS,dh] at this
theorem iG.kept (h:iG w) (hk:Kept w.heap.size w w'):iG w':=by
 have:=(h.below hk.below (nR _)).tp (τ:=w'.tape) (d:=w'.drawn);rwa [dS,dh] at this
theorem Vars.kept (h:Vars w) (hk:Kept w.heap.size w w'):Vars w':=⟨h.v2.kept hk,dV hk (nR _) h.g0,dV hk (nR _) h.g1,Nat.le_trans h.gl hk.size⟩
theorem fH.kept {V:BkV} (h:fH w V) (hk:Kept w.heap.size w w'):fH w' V:=by
 have hr: ∀{o:Option aD},bG w o->bG w' o:=fun h a ha=>by
  obtain⟨c,t,z,h1⟩:=h a ha;exact⟨c,t,z,by rw[hk.block _ (aS.1 h1).1];exact h1⟩
 exact⟨hr h.ta,hr h.la,hr h.pa⟩
end
def trk (xs:List Int):Nat->Int:=fun k=>xs.getD k 0
theorem lZ {xs:List Int} (h:dN xs=false) (k:Nat):0<=trk xs k/\trk xs k<=20:=by
 unfold dN at h;rw[List.any_eq_false] at h;unfold trk;rw[lD]
 cases e:xs[k]? with
 |none=>simp
 |some x=>
  have:=h x (List.mem_of_getElem? e);simp only[Bool.not_eq_true',Bool.not_eq_false] at this;have:=fK this;simpa using this
theorem nN {B:Bk} {xs:List Int} (h:aH B xs true=0):B.alarm=0/\xs.length=B.links.length/\dN xs=false:=by
 unfold aH at h;by_cases h0:B.alarm=0
 ·rw[if_pos h0] at h;by_cases h1:xs.length=B.links.length
  ·rw[if_pos h1] at h
   cases h2:dN xs with
   |true=>rw[h2] at h;cases h
   |false=>exact⟨h0,h1,rfl⟩
  ·rw[if_neg h1] at h;cases h
 ·rw[if_neg h0] at h;exact absurd h h0
theorem Ep {w:wD} {V:BkV} {B:Bk} {xs:List Int} {xa:Option aD} (hs:aB w V B) (hr:fH w V) (hv:Vars w) (hx:SlI w xa xs) (h:aH B xs true=0): ∃tb tofs,xa=some ⟨tb,tofs,none⟩/\fB w V B tb tofs (trk xs):=by
 obtain⟨h0,h1,h2⟩:=nN h;have G:=gY h0;have hl:=G.fine.links;have ht:=G.fine.towns;unfold Bk.spokes at hl;obtain⟨tb,tofs,e,_⟩:=hx 0 _ (lG (by omega));refine⟨tb,tofs,e,G.fine,G.steps,hs.at,⟨fun k hk=> ?_,fun k=>(lZ h2 k).1⟩,hr.ta,hr.la,hr.pa,hv.g0,hv.g1,hv.gl⟩;have hk':xs[k]? =some xs[k]:=lG (by omega);obtain⟨b,o,e2,h3⟩:=hx k _ hk';rw[e] at e2
 cases e2
 have:trk xs k=xs[k]:=by
  unfold trk;rw[lD,hk'];rfl
 rw[this];exact h3
def aQ (B:Bk) (T:Nat->Int):Nat->Nat->Int->Int
 | 0,_,c=>c
 |n+1,i,c=>if 0<=B.lackIn T false i then 2 else aQ B T n (i+1) (if 0<=B.lackIn T true i then 0 else c)
def jA (B:Bk) (xs:List Int):vL:=if aH B xs true=0 then .tuple #[iN qi (aQ B (trk xs) B.hours.toNat 0 1),iN qi 0] else .tuple #[iN qi 0,iN qi (aH B xs true)]
theorem YF (V:BkV) (B:Bk) (xs:List Int) (xa:Option aD) (xc:Nat) (w:wD) (hs:aB w V B) (hv:iG w) (hx:SlI w xa xs) (hxl:xs.length<=1000000) (hbad:aH B xs true≠0):
  Calls tP 16 #[V.val B,sL xa xs.length xc] w fun e w'=>e= rT (jA B xs)/\Below w.heap.size w w':=by
 obtain⟨ta,la,pa,tc,lc,pc⟩:=V;have hb0:Below w.heap.size w (w.alloc (cL #[iN qi B.hours,sL ta B.towns.length tc,sL la B.links.length lc,sL pa B.pairs.length pc] 26)):=(bR _ _).alloc (nR _) _;have HC:=lH (c55 ⟨ta,la,pa,tc,lc,pc⟩ B xs xa xc true _ (hs.below hb0 (nR _)) (hv.below hb0 (nR _)) (hx.below hb0 (nR _)) hxl);have HE:=lH (show jA B xs= .tuple #[iN qi 0,iN qi (aH B xs true)] by unfold jA;rw[if_neg hbad]);have HB0:=lH hb0;clear hs hv hx hb0;generalize aH B xs true=al at *;go_enter Tryd.func16,Tryd.ntmps16
 go_wp2_with fail
 refine HC.out.mono ?_;rintro e w1 ⟨rfl,hb1⟩;rw[lC hbad];have Hbw:=lH (HB0.out.trans (hb1.mono (by simp)));clear hb1;go_wp2
 go_ret2
 exact⟨by rw[HE.out];rfl,Hbw.out.trans ((bR _ _).alloc Hbw.out.size _)⟩
noncomputable def mg:Code:=Tryd.f16.body.getD .skip
noncomputable def Es:Array Oper:=match mg with
 | .seq _ (.seq _ (.seq _ (.seq _ (.seq (.seq (.region _ ops _) _) _))))=>ops
 |_=> #[]
noncomputable def sV:Code:=match mg with
 | .seq _ (.seq _ (.seq _ (.seq _ (.seq (.seq _ c) _))))=>c
 |_=> .skip
noncomputable def sZ:Code:=match mg with
 | .seq _ (.seq _ (.seq _ (.seq _ (.seq _ c))))=>c
 |_=> .skip
def EA (t0 t1 t2 t6 t7 t8 t11 t12 t13 t14 t15 t16 t17 t18 t20 t21 t22 t23 t24:vL):Act:=⟨#[t0,t1,t2,ud,iN qi 0,iN qi 0,t6,t7,t8,ud,ud,t11,t12,t13,t14,t15,t16,t17,t18,ud,t20,t21,t22,t23,t24,ud,ud,ud,ud,ud,ud,ud,ud,ud,ud,ud,ud,ud],[]⟩
def acz (w:wD) (V:BkV) (B:Bk) (xv:vL) (it:List Item) (a:Act) (w':wD):Prop:=
 ∃t0 t2 t6 t7 t11 t12 t13 t14 t15 t16 t17 t18,it= [.inRegion Es [2,3,4],.code sV,.code sZ]/\a=EA t0 xv t2 t6 t7 (iN qi 1) t11 t12 t13 t14 t15 t16 t17 t18 (V.val B) xv ud ud ud/\Kept w.heap.size w w'
theorem YH (V:BkV) (B:Bk) (xs:List Int) (xa:Option aD) (xc:Nat) (w:wD) (hs:aB w V B) (hv:iG w) (hx:SlI w xa xs) (hxl:xs.length<=1000000) (hok:aH B xs true=0):
  Comes tP [.code mg] (acz w V B (sL xa xs.length xc)) ⟨#[V.val B,sL xa xs.length xc,ud,ud,ud,ud,ud,ud,ud,ud,ud,ud,ud,ud,ud,ud,ud,ud,ud,ud,ud,ud,ud,ud,ud,ud,ud,ud,ud,ud,ud,ud,ud,ud,ud,ud,ud,ud],[]⟩ w:=by
 obtain⟨ta,la,pa,tc,lc,pc⟩:=V;have hb0:Below w.heap.size w (w.alloc (cL #[iN qi B.hours,sL ta B.towns.length tc,sL la B.links.length lc,sL pa B.pairs.length pc] 26)):=(bR _ _).alloc (nR _) _;have HC:=lH (c55 ⟨ta,la,pa,tc,lc,pc⟩ B xs xa xc true _ (hs.below hb0 (nR _)) (hv.below hb0 (nR _)) (hx.below hb0 (nR _)) hxl);have HB0:=lH hb0;clear hs hv hx hb0;simp only[mg,Tryd.f16,Option.getD_some];refine aK (bg ?_);go_wp2;refine aK (bg ?_)
 go_wp2_with fail
 refine HC.out.mono ?_;rintro e w1 ⟨rfl,hb1⟩;rw[hok,jE];have Hbw:=lH (HB0.out.trans (hb1.mono (by simp)));clear hb1 HC;go_wp2;refine aK (bg ?_);go_wp2;refine aK (bg ?_);go_wp2;refine aK (aK (qN ?_));refine dF rfl rfl (v:= .agg #[iN qi B.hours,sL ta B.towns.length tc,sL la B.links.length lc,sL pa B.pairs.length pc]) (w1:=w1.alloc (cL #[iN qi B.hours,sL ta B.towns.length tc,sL la B.links.length lc,sL pa B.pairs.length pc] 81)) (by go_simp) ?_;refine dF rfl rfl (v:= sL xa xs.length xc) (w1:=w1.alloc (cL #[iN qi B.hours,sL ta B.towns.length tc,sL la B.links.length lc,sL pa B.pairs.length pc] 81)) (by go_simp) ?_;refine dO ⟨_,_,_,_,_,_,_,_,_,_,_,_,rfl,rfl, ?_⟩;exact Kept.of_below (Hbw.out.trans ((bR _ _).alloc Hbw.out.size _))
def jP (B:Bk) (T:Nat->Int) (ob:Nat) (w:wD):Prop:= ∀k:Nat,(k:Int)<B.hours->w.cell? ⟨ob,k*3,none⟩=some (iN qi (k:Int))/\w.cell? ⟨ob,k*3+1,none⟩=some (iN qi (B.lackIn T true k))/\w.cell? ⟨ob,k*3+2,none⟩=some (iN qi (B.lackIn T false k))
theorem jP.below {B:Bk} {T:Nat->Int} {ob n:Nat} {w w':wD} (h:jP B T ob w) (hb:Below n w w') (hn:w.heap.size<=n):jP B T ob w':=fun k hk=>by
 obtain⟨h0,h1,h2⟩:=h k hk;exact⟨aoF hb h0 hn,aoF hb h1 hn,aoF hb h2 hn⟩
theorem jP.tp {B:Bk} {T:Nat->Int} {ob:Nat} {w:wD} {τ:Nat->qS->Nat} {d:Nat} (h:jP B T ob w):jP B T ob (w.tp τ d noJ):=fun k hk=>by
 obtain⟨h0,h1,h2⟩:=h k hk;exact⟨by rw[bV];exact h0,by rw[bV];exact h1,by rw[bV];exact h2⟩
theorem LU {B:Bk} {T:Nat->Int} {ob:Nat} {w:wD} {c:Array vL} (h:w.heap[ob]? =some (cL c 99 (0,0))) (hO:iV B T B.hours.toNat (List.range B.hours.toNat) c):jP B T ob w:=fun k hk=>by
 obtain⟨h0,h1,h2⟩:=hO.got k (List.mem_range.2 (by omega));exact⟨aA h h0,aA h h1,aA h h2⟩
theorem YI {B:Bk} {T:Nat->Int} {n k:Nat} {c:Int} (hk:k<n) (h:0<=B.lackIn T false k):aQ B T (n-k) k c=2:=by
 obtain⟨m,hm⟩: ∃m,n-k=m+1:=⟨n-k-1,by omega⟩;rw[hm,aQ,if_pos h]
theorem YJ {B:Bk} {T:Nat->Int} {n k:Nat} {c:Int} (hk:k<n) (h: ¬0<=B.lackIn T false k):aQ B T (n-k) k c=aQ B T (n-(k+1)) (k+1) (if 0<=B.lackIn T true k then 0 else c):=by
 obtain⟨m,hm⟩: ∃m,n-k=m+1:=⟨n-k-1,by omega⟩;rw[hm,aQ,if_neg h,show n-(k+1)=m by omega]
def EnS (B:Bk) (T:Nat->Int) (n:Nat) (w0:wD) (a:Act) (w':wD):Prop:=a.defers= []/\a.tmps.size=38/\a.tmps[8]?.getD ud= iN qi (aQ B T n 0 1)/\Kept w0.heap.size w0 w'
def EnR (B:Bk) (T:Nat->Int) (n:Nat) (w0:wD) (v:vL) (w':wD):Prop:=v= .tuple #[iN qi (aQ B T n 0 1),iN qi 0]/\Kept w0.heap.size w0 w'
def EnP (B:Bk) (T:Nat->Int) (n:Nat) (w0:wD) (e:Ending) (w':wD):Prop:= ∃v,e= rT v/\EnR B T n w0 v w'
theorem YK (B:Bk) (T:Nat->Int) (n:Nat) (hn:(n:Int)=B.hours) (hn3:n<=3) (ob:Nat) (w0 w:wD) (hk0:Kept w0.heap.size w0 w) (hO:jP B T ob w) (t0 t1 t2 t6 t7 t11 t12 t13 t14 t15 t16 t17 t18 t20 t21:vL):
  sV.wp tP (Exit.then (EnS B T n w0) (bodyPost tP Tryd.f16 (EnP B T n w0))) (EA t0 t1 t2 t6 t7 (iN qi 1) t11 t12 t13 t14 t15 t16 t17 t18 t20 t21 (sL (some ⟨ob,0,none⟩) n n) (iN qi (n:Int)) (iN qi 0)) w:=by
 have HO:=lH hO;have HK:Hid (∀w',Below w.heap.size w w'->Kept w0.heap.size w0 w'):=lH fun w' h=>hk0.trans ((Kept.of_below h).mono hk0.size);clear hO hk0;have Hn:=lH hn;clear hn;simp only[sV,mg,Tryd.f16,Option.getD_some,EA]
 go_wp2_with fail
 go_loopw [8,24] (fun c i wr=> ∃(k:Nat) (q:Int),k<=n/\i= iN qi (k:Int)/\c= iN qi q/\aQ B T n 0 1=aQ B T (n-k) k q/\Below w.heap.size w wr) (fun _ i _=>n-(intOf i).toNat)
 case atStart=>exact⟨0,1,Nat.zero_le _,rfl,rfl,rfl,bR _ _⟩
 case round=>
  obtain⟨k,q,hk,rfl,rfl,hfk,hb⟩:=hrel;have Hfk:=lH hfk;clear hfk;by_cases hlt:k<n
  ·obtain⟨g0,g1,g2⟩:=(HO.out.below hb (nR _)) k (by have:=Hn.out;omega);by_cases hf:0<=B.lackIn T false k
   ·have HH:=lH (Hfk.out.trans (YI hlt hf));generalize B.lackIn T false k=y at *;generalize B.lackIn T true k=x at *;go_wp2
    go_ret2
    exact⟨_,rfl,by rw[HH.out];rfl,HK.out _ (hb.trans (((bR _ _).alloc (nR _) _).mono hb.size))⟩
   ·have hcm:=YJ (c:=q) hlt hf;by_cases ht:0<=B.lackIn T true k
    ·rw[if_pos ht] at hcm;have HH:=lH (Hfk.out.trans hcm);clear hcm;generalize B.lackIn T false k=y at *;generalize B.lackIn T true k=x at *;go_wp2;go_roundw
     case rel=>exact⟨k+1,0,by omega,by go_num,rfl,HH.out,hb.trans (((bR _ _).alloc (nR _) _).mono hb.size)⟩
     case measure=>simp[intOf];omega
    ·rw[if_neg ht] at hcm;have HH:=lH (Hfk.out.trans hcm);clear hcm;generalize B.lackIn T false k=y at *;generalize B.lackIn T true k=x at *;go_wp2;go_roundw
     case rel=>exact⟨k+1,q,by omega,by go_num,rfl,HH.out,hb.trans (((bR _ _).alloc (nR _) _).mono hb.size)⟩
     case measure=>simp[intOf];omega
  ·have hke:k=n:=by omega
   have HH:=lH (show aQ B T n 0 1=q by rw[Hfk.out,hke,Nat.sub_self];rfl);clear hke;go_wp2;exact⟨rfl,rfl,by rw[HH.out];rfl,HK.out _ hb⟩
theorem YL (B:Bk) (T:Nat->Int) (n:Nat) (w0:wD) (a:Act) (w:wD) (hS:EnS B T n w0 a w):sZ.wp tP (bodyPost tP Tryd.f16 (EnP B T n w0)) a w:=by
 obtain⟨hdf,hsz,e8,hb⟩:=hS;have HB:=lH hb;clear hb;simp only[sZ,mg,Tryd.f16,Option.getD_some];have hp1:=kP a (d:=37) (iN qi (aQ B T n 0 1)) (by rw[hsz];decide);have hp2:=kP (a.put (some 37) (iN qi (aQ B T n 0 1))) (d:=4) (iN qi (aQ B T n 0 1)) (by rw[hp1.size,hsz];decide);have hp3:=kP ((a.put (some 37) (iN qi (aQ B T n 0 1))).put (some 4) (iN qi (aQ B T n 0 1))) (d:=5) (iN qi 0) (by rw[hp2.size,hp1.size,hsz];decide);refine wp_seq (wp_region (sK rfl rfl (w':=w) (v:= iN qi (aQ B T n 0 1)) (by simp[go_sem,e8]) (sK rfl rfl (w':=w) (v:= iN qi (aQ B T n 0 1)) ?_ (sK rfl rfl (w':=w) (v:= iN qi 0) (by simp[go_sem]) (wp_ret ?_)))))
 ·have:=hp1.same;simp only[Act.put] at this;simp[go_sem,this]
 ·refine⟨hp3.defers.trans (hp2.defers.trans (hp1.defers.trans hdf)),.tuple #[iN qi (aQ B T n 0 1),iN qi 0], ?_,_,rfl,rfl,HB.out⟩;have h4:=(hp3.other 4 (by decide)).trans hp2.same;have h5:=hp3.same;simp only[Act.put] at h4 h5;simp[results,go_sem,hsz]
def EnQ (w:wD) (V:BkV) (B:Bk) (xv:vL) (it:List Item) (a:Act) (w':wD):Prop:=
 ∃t0 t2 t6 t7 t11 t12 t13 t14 t15 t16 t17 t18,it= [.inRegion Es [2,3,4],.code sV,.code sZ]/\a=EA t0 xv t2 t6 t7 (iN qi 1) t11 t12 t13 t14 t15 t16 t17 t18 (V.val B) xv ud ud ud/\Kept w.heap.size w w'
def Et (w:wD) (B:Bk) (xs:List Int) (v:vL) (w':wD):Prop:=v=jA B xs/\Kept w.heap.size w w'
theorem fC {w w':wD} {τ:Nat->qS->Nat} {d:Nat}:Kept w.heap.size w (w'.tp τ d noJ)↔Kept w.heap.size w w':=by
 have:=Kept.tp (n:=w.heap.size) (w:=w) (w':=w') w.tape τ w.drawn d;rwa [dh] at this
theorem mD {w w':wD} {τ:Nat->qS->Nat} {d:Nat}:Kept w.heap.size (w.tp τ d noJ) w'↔Kept w.heap.size w w':=by
 have:=Kept.tp (n:=w.heap.size) (w:=w) (w':=w') τ w'.tape d w'.drawn;rwa [dh] at this
theorem Bl {R R':vL->wD->Prop} (h: ∀v w τ d,R v (w.tp τ d noJ)->R' v w) {v:vL} {w:wD} (hs:Sat R v w):R' v w:=by
 obtain⟨τ,d,r⟩:=hs;exact h v w τ d r
theorem qO (w:wD) (V:BkV) (B:Bk) (xs:List Int) (xa:Option aD) (xc:Nat) (hs:aB w V B) (hr:fH w V) (hv:Vars w) (hx:SlI w xa xs) (hxl:xs.length<=1000000):
  iK tP 16 #[V.val B,sL xa xs.length xc] w (Et w B xs):=by
 by_cases hok:aH B xs true=0
 ·refine(Bh good Tryd.func16 (x:=mg) (by rfl) (R:=Et w B xs) ?_).mono fun v w' h=>Bl (fun v w' τ d r=>⟨r.1,fC.1 r.2⟩) h;obtain⟨tb,tofs,rfl,hL⟩:=Ep hs hr hv hx hok;have hen:=fun τ=>YH V B xs (some ⟨tb,tofs,none⟩) xc (w.tp τ 0 noJ) hs.tp hv.v2.tp hx.tp hxl hok;obtain⟨h0,h1,h2⟩:=nN hok;have hG:=gY h0;have hH:=hG.fine.hours;have hact:(⟨#[V.val B,sL (some ⟨tb,tofs,none⟩) xs.length xc]++Array.replicate (Tryd.f16.ntmps- #[V.val B,sL (some ⟨tb,tofs,none⟩) xs.length xc].size) ud,[]⟩:Act)=⟨#[V.val B,sL (some ⟨tb,tofs,none⟩) xs.length xc,ud,ud,ud,ud,ud,ud,ud,ud,ud,ud,ud,ud,ud,ud,ud,ud,ud,ud,ud,ud,ud,ud,ud,ud,ud,ud,ud,ud,ud,ud,ud,ud,ud,ud,ud,ud],[]⟩:=by
   rw[Tryd.ntmps16];simp[BkV.val,Array.replicate,List.replicate]
  rw[hact];refine GL.mono (R:=EnR B (trk xs) B.hours.toNat w) ?_ (fun v w' ⟨e,hk⟩=>⟨by rw[e];unfold jA;rw[if_pos hok],hk⟩);refine jM good (Q:=EnQ w V B (sL (some ⟨tb,tofs,none⟩) xs.length xc)) (fun τ=>(hen τ).mono fun it a u ⟨t0,t2,t6,t7,t11,t12,t13,t14,t15,t16,t17,t18,e1,e2,hk⟩=>⟨t0,t2,t6,t7,t11,t12,t13,t14,t15,t16,t17,t18,e1,e2,mD.1 (by rwa [jO] at hk)⟩) ?_;rintro it a w1 ⟨t0,t2,t6,t7,t11,t12,t13,t14,t15,t16,t17,t18,rfl,rfl,hk⟩;rw[h1];have L1:fB w1 V B tb tofs (trk xs):=by
   have:=Ep (hs.kept hk) (hr.kept hk) (hv.kept hk) (hx.kept hk) hok;obtain⟨tb',tofs',e,l⟩:=this
   cases e
   exact l
  simp only[EA,Es,mg,Tryd.f16,Option.getD_some];refine qM good (g:=41) (R1:=Em w1 B (trk xs)) (args:= #[V.val B,sL (some ⟨tb,tofs,none⟩) B.links.length xc]) (by rfl) (by rfl) (fun u=>by go_simp) (LC w1 V B tb tofs xc (trk xs) L1) ?_;rintro v w2 ⟨ob,c,rfl,ho,hrow,hO,hk2⟩;have hOut:jP B (trk xs) ob w2:=LU hrow hO;have hk3:Kept w.heap.size w w2:=hk.trans (hk2.mono hk.size);refine jM good (Q:=fun it a u=> ∃t1 t20 t21,it= [.code sV,.code sZ]/\a=EA t0 t1 t2 t6 t7 (iN qi 1) t11 t12 t13 t14 t15 t16 t17 t18 t20 t21 (sL (some ⟨ob,0,none⟩) B.hours.toNat B.hours.toNat) (iN qi (B.hours.toNat:Int)) (iN qi 0)/\ ∃τ,u=w2.tp τ 0 noJ) (fun τ=> ?_) ?_
  ·refine dF rfl rfl (w1:=w2.tp τ 0 noJ) (v:= iN qi (B.hours.toNat:Int)) (by go_simp) ?_;refine dF rfl rfl (w1:=w2.tp τ 0 noJ) (v:= iN qi 0) (by go_simp) ?_;refine Bj (dO ⟨_,_,_,rfl,rfl,τ,rfl⟩)
  ·rintro it a u ⟨t1,t20,t21,rfl,rfl,τ,rfl⟩;have hOu:jP B (trk xs) ob (w2.tp τ 0 noJ):=hOut.tp;refine sQ good (EnS B (trk xs) B.hours.toNat w) Tryd.func16 (fun τ'=> ?_) ?_
   ·have hk4:Kept w.heap.size w ((w2.tp τ 0 noJ).tp τ' 0 noJ):=fC.2 (fC.2 hk3);exact YK B (trk xs) B.hours.toNat (by omega) (by omega) ob w _ hk4 hOu.tp t0 t1 t2 t6 t7 t11 t12 t13 t14 t15 t16 t17 t18 t20 t21
   ·rintro a' w3 hS;refine Bg good Tryd.func16 fun τ''=> ?_;exact YL B (trk xs) B.hours.toNat w a' _ ⟨hS.1,hS.2.1,hS.2.2.1,fC.2 hS.2.2.2⟩
 ·refine(Ei good (R:=Et w B xs) (fun v w' τ d r=>⟨r.1,fC.1 r.2⟩) fun τ=> ?_);refine(YF V B xs xa xc (w.tp τ 0 noJ) hs.tp hv.v2.tp hx.tp hxl hok).mono ?_;rintro e w' ⟨rfl,hb⟩;exact⟨_,rfl,rfl,mD.1 (by have:=Kept.of_below hb;rwa [jO] at this)⟩
end Go.Proofs.YtfiiffnbggnkfaaDoor
