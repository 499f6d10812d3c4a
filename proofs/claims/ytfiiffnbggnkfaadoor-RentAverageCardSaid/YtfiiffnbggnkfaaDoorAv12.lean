/- A part of the proof of a law; no conditions of its own. -/
import Derived.Test.YtfiiffnbggnkfaaDoorAv11
import Derived.KernelRfl
import Derived.Conc.DeferLaws
import Derived.Conc.SmallLaws
import Derived.IntWalk
open Go renaming Value→vL, World→wD
open Go.IntKind renaming i64→qi
set_option maxRecDepth 100000
open Go renaming undef→ud
open Go.Proofs.Tryd renaming prog→tP
open List renaming getElem?_eq_getElem→lG
open Array renaming getElem?_eq_some_iff→aS
open Array renaming getElem?_eq_getElem→aG
set_option maxHeartbeats 4000000
namespace Go.Proofs.YtfiiffnbggnkfaaDoor
open Go.Tp
set_option maxRecDepth 100000
def bare:List Nat:= [0,1,100,101,102,103,104,105,106,107,108,109,110,111,112,113,114,115,133,134,135,136,137]
theorem Xo:((List.range 139).all fun f=>match tP.funcs[f]? with
  |some fn=> !(fn.name== "runtime.NumGoroutine")&&(fn.body.isSome||bare.contains f)
  |none=>true)=true:=by kernel_rfl
theorem Xp:tP.funcs.size=139:=by kernel_rfl
theorem Xq:(bare.all fun f=>match tP.funcs[f]? with
  |some fn=>(Extern.findNext fn).isNone
  |none=>false)=true:=by kernel_rfl
theorem Xr:([0,1,112,133,134,135,136,137].all fun f=>match tP.funcs[f]? with
  |some fn=>(Extern.find fn).isNone
  |none=>false)=true:=by kernel_rfl
theorem Xt:Extern.find Tryd.f100=Extern.RuntimeError.rows.lookup "(runtime.boundsError).Error" :=by kernel_rfl
theorem Xu:Extern.find Tryd.f101=Extern.RuntimeError.rows.lookup "(runtime.boundsError).RuntimeError" :=by kernel_rfl
theorem Xv:Extern.find Tryd.f102=Extern.RuntimeError.rows.lookup "(runtime.errorString).Error" :=by kernel_rfl
theorem Xw:Extern.find Tryd.f103=Extern.RuntimeError.rows.lookup "(runtime.errorString).RuntimeError" :=by kernel_rfl
theorem Xx:Extern.find Tryd.f104=Extern.RuntimeError.rows.lookup "(runtime.plainError).Error" :=by kernel_rfl
theorem Xy:Extern.find Tryd.f105=Extern.RuntimeError.rows.lookup "(runtime.plainError).RuntimeError" :=by kernel_rfl
theorem Xz:Extern.find Tryd.f106=Extern.RuntimeError.rows.lookup "(runtime.errorAddressString).Error" :=by kernel_rfl
theorem XA:Extern.find Tryd.f107=Extern.RuntimeError.rows.lookup "(runtime.errorAddressString).RuntimeError" :=by kernel_rfl
theorem XB:Extern.find Tryd.f108=Extern.RuntimeError.rows.lookup "(*runtime.TypeAssertionError).Error" :=by kernel_rfl
theorem XC:Extern.find Tryd.f109=Extern.RuntimeError.rows.lookup "(*runtime.TypeAssertionError).RuntimeError" :=by kernel_rfl
theorem XD:Extern.find Tryd.f110=Extern.RuntimeError.rows.lookup "(*runtime.PanicNilError).Error" :=by kernel_rfl
theorem XE:Extern.find Tryd.f111=Extern.RuntimeError.rows.lookup "(*runtime.PanicNilError).RuntimeError" :=by kernel_rfl
theorem XF:Extern.find Tryd.f113=Extern.RuntimeError.rows.lookup "(internal/runtime/maps.unhashableTypeError).Error" :=by kernel_rfl
theorem XG:Extern.find Tryd.f114=Extern.RuntimeError.rows.lookup "(internal/runtime/maps.unhashableTypeError).RuntimeError" :=by kernel_rfl
theorem XH:Extern.find Tryd.f115=some (fun args=>do pure (strVal (Extern.Rtype.kindName (<-asInt (args.getD 0 (.tuple #[]))).toNat))):=by kernel_rfl
theorem KR {α:Type} {n:String} {e:α}: ∀{l:List (String×α)},l.lookup n=some e-> ∃n',(n',e)∈l
 | [],h=>by cases h
 | (m,x)::l,h=>by
  rw[List.lookup_cons] at h
  split at h
  ·cases h;exact⟨m,List.mem_cons_self ..⟩
  ·obtain⟨n',hn⟩:=KR h;exact⟨n',List.mem_cons_of_mem _ hn⟩
theorem je {fn:Func} {n:String} (h:Extern.find fn=Extern.RuntimeError.rows.lookup n):Extern.find fn=none\/ ∃e,Extern.find fn=some e/\ ∀args,ah tP (e args):=by
 rw[h]
 cases hl:Extern.RuntimeError.rows.lookup n with
 |none=>exact .inl rfl
 |some e=>
  obtain⟨n',hm⟩:=KR hl;exact .inr ⟨e,rfl,fun args=>Xe hm args⟩
theorem XI:Extern.find Tryd.f115=none\/ ∃e,Extern.find Tryd.f115=some e/\ ∀args,ah tP (e args):=
 .inr ⟨_,XH,fun _=>aF (CZ tP _) fun _=>dI _ _⟩
theorem XJ (f:Nat) (hf:f∈bare) (fn:Func) (h:tP.funcs[f]? =some fn):Extern.find fn=none\/ ∃e,Extern.find fn=some e/\ ∀args,ah tP (e args):=by
 have key: ∀g,tP.funcs[f]? =some g->fn=g:=fun g hg=>Option.some.inj (h.symm.trans hg);have hn:=Xr;rw[List.all_eq_true] at hn;have no:f∈ [0,1,112,133,134,135,136,137]->Extern.find fn=none:=fun hm=>by
  have:=hn f hm;rw[h] at this;exact Option.isNone_iff_eq_none.1 this
 simp only[bare,List.mem_cons,List.not_mem_nil,or_false] at hf
 rcases hf with rfl |rfl |rfl |rfl |rfl |rfl |rfl |rfl |rfl |rfl |rfl |rfl |rfl |rfl |rfl |rfl |rfl |rfl |rfl |rfl |rfl |rfl |rfl
 ·exact .inl (no (by simp))
 ·exact .inl (no (by simp))
 ·rw[key _ Tryd.func100];exact je Xt
 ·rw[key _ Tryd.func101];exact je Xu
 ·rw[key _ Tryd.func102];exact je Xv
 ·rw[key _ Tryd.func103];exact je Xw
 ·rw[key _ Tryd.func104];exact je Xx
 ·rw[key _ Tryd.func105];exact je Xy
 ·rw[key _ Tryd.func106];exact je Xz
 ·rw[key _ Tryd.func107];exact je XA
 ·rw[key _ Tryd.func108];exact je XB
 ·rw[key _ Tryd.func109];exact je XC
 ·rw[key _ Tryd.func110];exact je XD
 ·rw[key _ Tryd.func111];exact je XE
 ·exact .inl (no (by simp))
 ·rw[key _ Tryd.func113];exact je XF
 ·rw[key _ Tryd.func114];exact je XG
 ·rw[key _ Tryd.func115];exact XI
 ·exact .inl (no (by simp))
 ·exact .inl (no (by simp))
 ·exact .inl (no (by simp))
 ·exact .inl (no (by simp))
 ·exact .inl (no (by simp))
theorem XK (f:FuncId) (fn:Func) (h:tP.funcs[f]? =some fn):KP tP fn:=by
 have hlt:f<139:=by rw[<-Xp];exact(aS.1 h).1
 have h1:=Xo;rw[List.all_eq_true] at h1;have h2:=h1 f (List.mem_range.2 hlt);rw[h] at h2;simp only[Bool.and_eq_true,Bool.not_eq_true',Bool.or_eq_true] at h2;refine⟨h2.1,h2.2.imp (fun x=>x) fun hb=> ?_⟩;have hm:f∈bare:=by simpa using hb
 have h3:=Xq;rw[List.all_eq_true] at h3;have h4:=h3 f hm;rw[h] at h4;exact⟨Option.isNone_iff_eq_none.1 h4,XJ f hm fn h⟩
theorem XL:(tP.types.toList.all fun i=>i.methods.toList.all fun m=>match m.func with
  |none=>true
  |some (f,_)=> !(m.name== "Error" ||m.name== "String")||match tP.funcs[f]? with
   |some fn=>fn.body.isNone&&(Extern.findNext fn).isNone
   |none=>false)=true:=by kernel_rfl
theorem XM (f:Nat) (h:qE tP "Error" f\/qE tP "String" f): ∃fn,tP.funcs[f]? =some fn/\fn.body=none/\(Extern.findNext fn).isNone=true:=by
 have key: ∀s,(s== "Error" ||s== "String")=true->qE tP s f-> ∃fn,tP.funcs[f]? =some fn/\fn.body=none/\(Extern.findNext fn).isNone=true:=by
  rintro s hs ⟨t,i,m,b,h1,h2,h3,rfl⟩
  rcases Xl tP.toTables h1 with hi |hi
  ·have h4:=XL;rw[List.all_eq_true] at h4;have h5:=h4 i (by simpa using hi);rw[List.all_eq_true] at h5;have h6:=h5 m (by simpa using h2);rw[h3] at h6;simp only[hs,Bool.not_true,Bool.false_or] at h6
   cases hf:tP.funcs[f]? with
   |none=>rw[hf] at h6;cases h6
   |some fn=>
    rw[hf] at h6;simp only[Bool.and_eq_true] at h6;exact⟨fn,rfl,Option.isNone_iff_eq_none.1 h6.1,h6.2⟩
  ·rw[hi] at h2;simp at h2
 rcases h with h |h
 ·exact key _ rfl h
 ·exact key _ rfl h
theorem XO:(tP.funcs.toList.all fun fn=>match fn.body with
  |none=>true
  |some c=>codeOk true c)=true:=by kernel_rfl
theorem XP:(tP.funcs.toList.all fun fn=>match fn.body with
  |none=>true
  |some c=>(readies c).isEmpty)=true:=by kernel_rfl
theorem ahead:tP.follows .staticDataAhead=true:=by kernel_rfl
theorem good:Go.Tp.Good tP where
 funcs:=Xf XK
 bodies:=fun f fn c hf hc=>by
  have h:=XO;rw[List.all_eq_true] at h;have:=h fn (by simpa using Array.mem_of_getElem? hf);rw[hc] at this;exact this
 ahead:=ahead
 noStep:=fun g=>by
  unfold Program.stepOf;rw[Array.findIdx?_eq_none_iff];intro fn hfn;have h:=XP;rw[List.all_eq_true] at h;have:=h fn (by simpa using hfn)
  cases hb:fn.body with
  |none=>rfl
  |some c=>
   rw[hb] at this;simp only[Option.map_some,Option.any_some];have:readies c= []:=by simpa using this
   rw[this];rfl
 noEnter:=Xn XM
def jY (f:FuncId):Bool:= [39,42,54,44,67,68,76,116,117].contains f
def qF (g:Nat):Bool:=g==0||g==1
theorem XQ:([39,42,54,44,67,68,76,116,117].all fun f=>match tP.funcs[f]? with
  |some fn=>match fn.body with
   |some b=> !(fn.name== "runtime.NumGoroutine")&&jX tP jY qF b&&(tP.inits.idxOf? f).isNone
   |none=>false
  |none=>false)=true:=by kernel_rfl
theorem KT:FC tP jY qF:=by
 refine⟨fun f hf=> ?_⟩;have h:=XQ;rw[List.all_eq_true] at h;have h1:=h f (by simpa[jY] using hf)
 cases e:tP.funcs[f]? with
 |none=>rw[e] at h1;cases h1
 |some fn=>
  rw[e] at h1;dsimp only at h1
  cases e2:fn.body with
  |none=>rw[e2] at h1;cases h1
  |some b=>
   rw[e2] at h1;simp only[Bool.and_eq_true,Bool.not_eq_true'] at h1;exact⟨fn,b,rfl,e2,h1.1.1,h1.1.2,Option.isNone_iff_eq_none.1 h1.2⟩
end Go.Proofs.YtfiiffnbggnkfaaDoor
namespace Go.Proofs.YtfiiffnbggnkfaaDoor
open Go.RowKit Go.Rent Go.Tp Go.Conc
def qG (bb hb trb c3 c4:Nat):Deferred:={target:= .fn (.func 68) #[.pointer (some ⟨bb,0,none⟩),.pointer (some ⟨hb,0,none⟩),.pointer (some ⟨trb,0,none⟩),.pointer (some ⟨c3,0,none⟩),.pointer (some ⟨c4,0,none⟩)],args:= #[]}
def nK (bb hb trb c3 c4:Nat):Act:=⟨#[.pointer (some ⟨bb,0,none⟩),.pointer (some ⟨hb,0,none⟩),.pointer (some ⟨trb,0,none⟩),.pointer (some ⟨c3,0,none⟩),.pointer (some ⟨c4,0,none⟩),ud,ud,ud,ud,ud,ud,ud,ud,ud,ud,ud,ud,ud,ud,ud,ud,ud,ud,ud,ud,ud,ud,ud,ud,ud,ud,ud,ud,ud,ud,ud,ud,ud,ud,ud,ud,ud],[]⟩
noncomputable def kS:Code:=Tryd.f68.body.getD .skip
noncomputable def bot:Frame:={(default:Frame) with fn:=tP.funcs.size,defers:= [],mode:= .panicking [goexitEntry]}
theorem XR (bb hb trb c3 c4:Nat) (w:wD):stepG tP false (born tP (qG bb hb trb c3 c4)) w=
  .go {frame:=(baseD 68).at (nK bb hb trb c3 c4) [.code kS],callers:= [bot],status:= .running,dying:=none} w #[]:=by
 simp[born,qG,stepG,unwind,callDeferred,invoke,callFunc,Tryd.func68,Tryd.f68,seen,GStep.after,Frame.enter,Frame.at,baseD,bot,kS,nK]
theorem XT (bb hb trb c3 c4:Nat):Frame.enter tP 68 #[.pointer (some ⟨bb,0,none⟩),.pointer (some ⟨hb,0,none⟩),.pointer (some ⟨trb,0,none⟩),.pointer (some ⟨c3,0,none⟩),.pointer (some ⟨c4,0,none⟩)] .deferred=(baseD 68).at (nK bb hb trb c3 c4) [.code kS]:=by
 simp[Tryd.func68,Tryd.f68,Frame.enter,Frame.at,baseD,kS,nK]
def XU (B:Bk) (T:Nat->Int) (h:Nat) (vA vB:vL) (it:List Item) (a:Act):Prop:=
 ∃ops o i j,it= [.inRegion ops [2]]/\ops[2]? =some o/\o.op= .send (.tmp i) (.tmp j)/\o.guard=none/\a.eval (.tmp i)=(if 0<=B.lackIn T true h then vA else vB)/\a.eval (.tmp j)=found B T h/\a.defers= []
def KU (B:Bk) (T:Nat->Int) (h:Nat) (vA vB:vL) (g:Goroutine) (_:wD):Prop:=
 ∃it a,g={frame:=(baseD 68).at a it,callers:= [],status:= .running,dying:=none}/\XU B T h vA vB it a
theorem bT.congr {w w':wD} {V:BkV} {B:Bk} (h:bT w V B) (e: ∀a,w'.cell? a=w.cell? a):bT w' V B:=by
 obtain⟨h1,h2,h3⟩:=h;constructor
 ·intro i t hi;obtain⟨b,o,x,y⟩:=h1 i t hi;exact⟨b,o,x,by rw[e];exact y⟩
 ·intro i L hi;obtain⟨b,o,sa,sc,x,y1,y2,y3,z⟩:=h2 i L hi;exact⟨b,o,sa,sc,x,by rw[e];exact y1,by rw[e];exact y2,by rw[e];exact y3,fun k s hk=>by
   obtain⟨b',o',p,q,r⟩:=z k s hk;exact⟨b',o',p,by rw[e];exact q,by rw[e];exact r⟩⟩
 ·intro i L hi;obtain⟨b,o,sa,sc,x,y1,y2,y3,z⟩:=h3 i L hi;exact⟨b,o,sa,sc,x,by rw[e];exact y1,by rw[e];exact y2,by rw[e];exact y3,fun k s hk=>by
   obtain⟨b',o',p,q,r⟩:=z k s hk;exact⟨b',o',p,by rw[e];exact q,by rw[e];exact r⟩⟩
theorem bK.congr {w w':wD} {tb tofs n:Nat} {T:Nat->Int} (h:bK w tb tofs n T) (e: ∀a,w'.cell? a=w.cell? a):bK w' tb tofs n T:=⟨fun k hk=>by rw[e];exact h.get k hk,h.pos⟩
theorem iT.congr {w w':wD} {V:BkV} {B:Bk} {bb hb trb h tb tofs tcap:Nat} (k:iT w V B bb hb trb h tb tofs tcap) (e: ∀a,w'.cell? a=w.cell? a):iT w' V B bb hb trb h tb tofs tcap:=
 ⟨by rw[e];exact k.b0,by rw[e];exact k.b1,by rw[e];exact k.b2,by rw[e];exact k.b3,by rw[e];exact k.hc,by rw[e];exact k.tr,by rw[e];exact k.g0,by rw[e];exact k.g1⟩
theorem XV (V:BkV) (B:Bk) (hB:B.Fine) (bb hb trb h tb tofs tcap c3 c4:Nat) (T:Nat->Int) (vA vB:vL) (u:wD) (hst:Started u) (hat:bT u V B) (hT:bK u tb tofs B.links.length T) (hh:(h:Int)<B.hours) (hk:iT u V B bb hb trb h tb tofs tcap)
  (e3:u.cell? ⟨c3,0,none⟩=some vB) (e4:u.cell? ⟨c4,0,none⟩=some vA) (hA: ∃x,vA= .chan x) (hvB: ∃x,vB= .chan x) (hok:aP ((baseD 68).at (nK bb hb trb c3 c4) [.code kS])):
  Run tP (gQ (KU B T h vA vB)) {frame:=(baseD 68).at (nK bb hb trb c3 c4) [.code kS],callers:= [],status:= .running,dying:=none} u:=by
 refine lJ good (fun g w τ d hs=>hs) ⟨⟨hok,fun f hf=>by cases hf⟩,rfl,rfl,hst⟩ fun τ=> ?_;have e: ∀a,(u.tp τ 0 noJ).cell? a=u.cell? a:=fun a=>by rw[jV];exact lF
 obtain⟨it,a',w',hq,n,hn⟩:=WW V B hB bb hb trb h tb tofs tcap c3 c4 T vA vB (u.tp τ 0 noJ) (hat.congr e) (hT.congr e) hh (hk.congr e) (by rw[e];exact e3) (by rw[e];exact e4) hA hvB (baseD 68) [] [];refine⟨n,_,hn,_,w',rfl,rfl,rfl,it,a', ?_,hq.2⟩;rw[List.append_nil]
theorem XW {F:FuncId->Bool} {R:Rl} {c:Array vL} (h: ∀v∈c,VR F R v v):VRs F R c c:=
 ⟨rfl,fun i v v' h1 h2=>by rw[h1] at h2;obtain rfl:=Option.some.inj h2;exact h v (Array.mem_of_getElem? h1)⟩
theorem qo {F:FuncId->Bool} {R:Rl}:VR F R ud ud:= .tuple rfl (fun i v v' h1 _=>by simp at h1)
theorem XY (fr:Frame) (ops:Array Oper) (ht:fr.todo= [.inRegion ops []]) (hd:fr.defers= []) (hm:fr.mode= .run) (hk:fr.kind= .deferred) (hr:fr.roundOf=none) (hf:fr.fn=68):
  QuitsD tP 4 0 {frame:=fr,callers:= [bot],status:= .running,dying:=none}:=by
 obtain⟨fn,tmps,todo,defers,mode,kind,ro⟩:=fr;simp only at ht hd hm hk hr hf;subst ht hd hm hk hr hf;refine .inr ⟨rfl,{frame:={fn:=68,tmps:=tmps,todo:= [],defers:= [],mode:= .run,kind:= .deferred,roundOf:=none},callers:= [bot],status:= .running,dying:=none},#[],by simp,fun w=>rfl, ?_⟩;refine .inr ⟨rfl,{frame:={fn:=68,tmps:=tmps,todo:= [],defers:= [],mode:= .returning,kind:= .deferred,roundOf:=none},callers:= [bot],status:= .running,dying:=none},#[],by simp,fun w=>rfl, ?_⟩;refine .inr ⟨rfl,{frame:=bot,callers:= [],status:= .running,dying:=none},#[],by simp,fun w=> ?_, ?_⟩
 ·simp[stepG,unwind,Tryd.func68,Tryd.f68,results,doReturn,bot,goexitEntry,seen,GStep.after]
 refine .inr ⟨rfl,{frame:=bot,callers:= [],status:= .finished,dying:=none},#[],by simp,fun w=> ?_, ?_⟩
 ·simp[stepG,unwind,bot,goexitEntry,Frame.catches];rfl
 exact⟨rfl,rfl⟩
theorem XZ {F:FuncId->Bool} {R:Rl} {r:Nat} {v:vL} (h:VR F R (.chan (some r)) v): ∃r',v= .chan (some r')/\R.ch r r':=by
 cases h with
 |chan hr=>exact⟨_,rfl,hr⟩
theorem Ed {F:FuncId->Bool} {R:Rl} {k:IntKind} {n:Int} {v:vL} (h:VR F R (.int k n) v):v= .int k n:=by
 cases h;rfl
theorem Ya {F:FuncId->Bool} {R:Rl} {B:Bk} {T:Nat->Int} {h:Nat} {v:vL} (x:VR F R (found B T h) v):v=found B T h:=by
 unfold found at x ⊢
 cases x with
 | @agg c c' hs hg=>
  congr 1
  have hs':c'.size=3:=hs.symm;refine Array.ext hs' fun i h1 h2=> ?_;have g:=hg i _ _ (aG h2) (aG h1);have hi3:i<3:=h2
  match i,hi3 with
  | 0,_=>exact Ed g
  | 1,_=>exact Ed g
  | 2,_=>exact Ed g
theorem Yb (φ:Ph) (H:Hold) (k:Nat) (V:BkV) (B:Bk) (hB:B.Fine) (bb hb trb tb tofs tcap c3 c4:Nat) (T:Nat->Int) (u:wD) (w0:wD) (hw0:w0=frz jY (fun b=>H.mine b\/H.sh b) u) (hat:bT w0 V B) (hT:bK w0 tb tofs B.links.length T) (hh:(k:Int)<B.hours) (hk:iT w0 V B bb hb trb k tb tofs tcap)
  (e3:w0.cell? ⟨c3,0,none⟩=some (.chan (some φ.chB))) (e4:w0.cell? ⟨c4,0,none⟩=some (.chan (some φ.chA)))
  (hval:φ.val k=found B T k) (hisA:φ.isA k=decide (0<=B.lackIn T true k)) (hgl:tP.globals.size<=u.heap.size)
  (hneat: ∀b∈ [0,1,bb,hb,trb,c3,c4],iU (fun b=>H.mine b\/H.sh b) u b):
  MV tP false (AtSend tP φ k) (⟨fun _=>False,fun b=>H.mine b\/H.sh b⟩,born tP (qG bb hb trb c3 c4),u):=by
 have hS: ∀g w,gQ (KU B T k (.chan (some φ.chA)) (.chan (some φ.chB))) g w-> ¬jw tP g:=by
  rintro g w ⟨⟨it,a,rfl,_⟩,_⟩ hd
  rcases hd with h1 |h1 |h1
  ·exact h1 rfl
  ·obtain⟨_,d,h2,_⟩:=h1;cases h2
  ·obtain⟨_,⟨c,h2⟩,_⟩:=h1;cases h2
 have hn: ∀b,iU (fun b=>H.mine b\/H.sh b) u b->(RK (fun b=>H.mine b\/H.sh b) u).rel b b:=fun b hb=>⟨rfl,hb⟩;have hSS: ∀b b',(RK (fun b=>H.mine b\/H.sh b) u).rel b b'->(RK (fun b=>H.mine b\/H.sh b) u).own b'\/(fun b=>H.mine b\/H.sh b) b':=fun b b' h=> .inr (by obtain⟨rfl,hb⟩:=h;exact hb.1);obtain⟨fn,body,hfn,hbody,hname,hcode,hin⟩:=KT.body 68 (by rfl);have hcode':jX tP jY qF kS=true:=by
  have hfe:fn=Tryd.f68:=by rw[Tryd.func68] at hfn;exact(Option.some.inj hfn).symm
  rw[hfe] at hbody;have hb:kS=body:=by unfold kS;rw[hbody];rfl
  rw[hb];exact hcode
 have hok:aP ((baseD 68).at (nK bb hb trb c3 c4) [.code kS]):=by
  rw[<-XT];exact nG good.bodies 68 _ (by decide)
 clear hcode hbody hfn hname hin;refine MV.step' rfl fun u' ho=> ?_;refine⟨(⟨fun _=>False,fun b=>H.mine b\/H.sh b⟩,_,u'), ?_,#[],XR bb hb trb c3 c4 u',⟨Nat.le_refl _,fun _ _ _=>rfl,fun b=>⟨fun x=>x.elim,fun x=>x.elim id fun y=>Nat.lt_irrefl _ (Nat.lt_of_le_of_lt y.1 y.2)⟩,rfl,rfl,rfl,rfl⟩,by simp⟩;refine(VX good KT (mn:=false) (tl:= [bot]) (S:=fun b=>H.mine b\/H.sh b) hS (XV V B hB bb hb trb k tb tofs tcap c3 c4 T _ _ w0 (by rw[hw0];exact KN u) hat hT hh hk e3 e4 ⟨_,rfl⟩ ⟨_,rfl⟩ hok)
  (RK (fun b=>H.mine b\/H.sh b) u) _ u' (Rl.le.refl _) (fun _ _ h=>h) ?_ ⟨hok,fun f hf=>by cases hf⟩ (by rw[hw0];exact KN u) ?_ hSS (by rw[hw0];exact(WZ hgl).off hSS ho)).mono ?_
 ·refine⟨⟨rfl,by rfl,rfl, ?_,rfl,rfl,rfl,(by intro e;cases e),rfl,rfl,rfl, ?_⟩,.nil,rfl,rfl,rfl,rfl,.inl rfl,(fun x hx=>by cases hx),.inl rfl⟩
  ·intro it hit;obtain rfl:=List.mem_singleton.1 hit;exact hcode'
  ·refine XW fun v hv=> ?_;simp only[Frame.at,nK,List.mem_toArray,List.mem_cons,List.not_mem_nil,or_false] at hv;have hp: ∀b,b∈ [0,1,bb,hb,trb,c3,c4]->VR jY (RK (fun b=>H.mine b\/H.sh b) u) (.pointer (some ⟨b,0,none⟩)) (.pointer (some ⟨b,0,none⟩)):=fun b hb'=> .pointer (.mk 0 none (hn b (hneat b hb')))
   rcases hv with rfl |rfl |rfl |rfl |rfl |hv
   ·exact hp _ (by simp)
   ·exact hp _ (by simp)
   ·exact hp _ (by simp)
   ·exact hp _ (by simp)
   ·exact hp _ (by simp)
   ·have:v=ud:=by simpa using hv
    subst this;exact qo
 ·intro x hx;have:x=0\/x=1:=by simpa[qF] using hx
  rcases this with rfl |rfl
  ·exact hn _ (hneat _ (by simp))
  ·exact hn _ (hneat _ (by simp))
 ·rintro H' g' u'' ⟨R,g,w,hle,hch,⟨⟨it,a,rfl,hend⟩,hfine⟩,hg,hw,rfl,hS'⟩;obtain⟨ops,o,i,j,rfl,hop,hsend,hgd,hc,hv,hd⟩:=hend;obtain⟨fr,cs,st,dy,off⟩:=g';obtain⟨hF,hC,_,hrun,_,hal,_,_,_⟩:=hg;simp only at hF hC hrun hal;subst hrun hal
  cases hC
  have hE:=DF hF.tmps (Gl:=qF) (fun x hx=>hle.rel _ _ (by
   have:x=0\/x=1:=by simpa[qF] using hx
   rcases this with rfl |rfl
   ·exact hn _ (hneat _ (by simp))
   ·exact hn _ (hneat _ (by simp))))
  have hi:=hE (.tmp i) rfl;have hj:=hE (.tmp j) rfl;obtain⟨fn',tmps,todo,defers,mode,kind,ro⟩:=fr;have h1:=hF.fn;have h2:=hF.todo;have h3:=hF.defers';have h4:=hF.mode;have h5:=hF.kind';have h6:=hF.round';simp only[Frame.at,baseD] at h1 h2 h3 h4 h5 h6;subst h1 h2 h3 h4 h5 h6;rw[Frame.eval_at',hc] at hi;rw[Frame.eval_at',hv] at hj;generalize hfr:({fn:=68,tmps:=tmps,todo:= [.inRegion ops [2]],defers:= [],mode:= .run,kind:= .deferred}:Frame)=fr at hi hj;have hchan:(if 0<=B.lackIn T true k then Value.chan (some φ.chA) else Value.chan (some φ.chB))= .chan (some (φ.chan k)):=by
   unfold Ph.chan;rw[hisA];by_cases hl:0<=B.lackIn T true k<;>simp[hl]
  rw[hchan] at hi;obtain⟨r',e1,hr'⟩:=XZ hi;obtain rfl:φ.chan k=r':=hch _ _ hr';have e2:=Ya hj;rw[<-hval] at e2;refine⟨{frame:=fr,callers:= [bot],status:= .running,dying:=none},4, ?_, ?_⟩
  ·subst hfr;have hg2:(execOp ({fn:=68,tmps:=tmps,todo:= [.inRegion ops [2]],defers:= [],mode:= .run,kind:= .deferred}:Frame).eval o).runT tP u'' #[]=(.ok (.comm (φ.send k) true .send) u'',#[]):=by
    unfold execOp;rw[hsend];simp only[e1,e2];rfl
   simp only[stepG,stepG.exec,hop,Option.map_some,Region.wanted,hgd,Option.getD_some];rw[if_pos trivial];simp only[stepG.oper,Frame.oper?,hop,stepG.apply,if_true];rw[hg2];simp[GStep.after,seen]
  ·subst hfr;refine XY _ ops ?_ ?_ ?_ ?_ ?_ ?_<;>simp[Frame.finish]
noncomputable def jZ:Array Oper:=match Tryd.f41.body with
 |some (.seq _ (.seq (.region _ ops _) _))=>ops
 |_=> #[]
def LL (f0 f1 f2 f3 f4 f5:Bool):Array Bool:= #[f0,f1,f2,f3,f4,f5]
theorem Yc (f0 f1 f2 f3 f4:Bool) (h4:f4=true->f0=true/\f2=true/\f3=true) (hn:f0=true->f1=true->f2=true->f3=true->f4=true->False):
  Region.ready .any jZ (LL f0 f1 f2 f3 f4 false)=(bif f0 then [] else [0])++((bif f1 then [] else [1])++((bif f2 then [] else [2])++((bif f3 then [] else [3])++(bif f0&&f2&&f3&& !f4 then [4] else [])))):=by
 cases f4 with
 |false=>cases f0<;>cases f1<;>cases f2<;>cases f3<;>kernel_rfl
 |true=>
  obtain⟨rfl,rfl,rfl⟩:=h4 rfl
  cases f1
  ·kernel_rfl
  ·exact(hn rfl rfl rfl rfl rfl).elim
theorem Yd:Region.ready .any jZ (LL true true true true true false)= [5]:=by kernel_rfl
theorem Ye:Region.ready .any jZ (LL true true true true true true)= []:=by kernel_rfl
theorem KW (w:wD):(Instr.makeChan 121 (.int qi 0)).run tP w= .ok (.chan (some w.heap.size)) (w.alloc (.chan 0 #[] false 0 0 false)):=by
 have h:(tP.info? 99).map (·.bytes)=some 24:=by kernel_rfl
 obtain⟨i,hi,hb⟩:=Option.map_eq_some_iff.1 h;simpa using run_makeChan (P:=tP) (w:=w) Tryd.underlying121 hi qi 0 (by omega) (by rw[hb];omega)
def jy (w:wD) (r:Nat):Prop:=w.heap[r]? =some (.chan 0 #[] false 0 0 false)
def LA (x2 x3 x4 t5 t6 t11 t12 p0 p1:vL):Act:=⟨#[p0,p1,x2,x3,x4,t5,t6,ud,ud,ud,ud,t11,t12,ud,ud,ud,ud,ud,ud,ud,ud,ud,ud,ud,ud,ud,ud,ud,ud,ud,ud,ud,ud,ud,ud,ud,ud,ud,ud,ud,ud,ud,ud,ud,ud,ud,ud,ud,ud,ud],[]⟩
structure LS (w0 w:wD) (f0 f1 f2 f3 f4:Bool) (t5 t6 t11 t12:vL):Prop where
 bel:Below w0.heap.size w0 w
 c0:f0=true-> ∃r,t11= .chan (some r)/\w0.heap.size<=r/\r<w.heap.size/\jy w r
 c1:f1=true-> ∃r,t12= .chan (some r)/\w0.heap.size<=r/\r<w.heap.size/\jy w r
 c2:f2=true-> ∃b,t5= .pointer (some ⟨b,0,none⟩)/\w0.heap.size<=b/\b<w.heap.size/\w.heap[b]? =some (.cells #[if f4 then t11 else .chan none] 121 (0,0))
 c3:f3=true-> ∃b,t6= .pointer (some ⟨b,0,none⟩)/\w0.heap.size<=b/\b<w.heap.size/\w.heap[b]? =some (.cells #[.chan none] 121 (0,0))
 ne01:f0=true->f1=true->t11≠t12
 ne23:f2=true->f3=true->t5≠t6
theorem jf {w:wD} {o x:Obj} {b:Nat} (h:w.heap[b]? =some x):(w.alloc o).heap[b]? =some x:=by
 rw[Below.heap_alloc w o b (aS.1 h).1];exact h
theorem lU {w:wD} {o:Obj}:(w.alloc o).heap[w.heap.size]? =some o:=by
 show (w.heap.push o)[w.heap.size]? =some o
 simp
theorem heap_set {w:wD} {c:Array vL} {t:TypeId} {z:Nat×Nat} {b:Nat} {v:vL} (h:w.heap[b]? =some (.cells c t z)):(w.setCell ⟨b,0,none⟩ v).heap[b]? =some (.cells (c.setIfInBounds 0 v) t z):=by
 simp[World.setCell,Array.getElem?_modify,h]
def lV (f0 f1 f2 f3 f4:Bool):Nat:=(bif f0 then 0 else 1)+(bif f1 then 0 else 1)+(bif f2 then 0 else 1)+(bif f3 then 0 else 1)+(bif f4 then 0 else 1)
theorem Yf (w0:wD) (x2 x3 x4 p0 p1:vL) (Q:Exit->Act->wD->Prop)
  (hQ: ∀rA rB b5 b6 w',Below w0.heap.size w0 w'->w0.heap.size<=rA->w0.heap.size<=rB->w0.heap.size<=b5->w0.heap.size<=b6->rA≠rB->b5≠b6->jy w' rA->jy w' rB->
   w'.heap[b5]? =some (.cells #[.chan (some rA)] 121 (0,0))->w'.heap[b6]? =some (.cells #[.chan (some rB)] 121 (0,0))->
   Q .normal (LA x2 x3 x4 (.pointer (some ⟨b5,0,none⟩)) (.pointer (some ⟨b6,0,none⟩)) (.chan (some rA)) (.chan (some rB)) p0 p1) w'):
  ∀(n:Nat) (f0 f1 f2 f3 f4:Bool) (t5 t6 t11 t12:vL) (w:wD),lV f0 f1 f2 f3 f4=n->(f4=true->f0=true/\f2=true/\f3=true)->LS w0 w f0 f1 f2 f3 f4 t5 t6 t11 t12->
   wpAny tP .any jZ Q (n+1) (LL f0 f1 f2 f3 f4 false) (LA x2 x3 x4 t5 t6 t11 t12 p0 p1) w:=by
 intro n
 induction n with
 |zero=>
  intro f0 f1 f2 f3 f4 t5 t6 t11 t12 w hn h4 K;obtain⟨rfl,rfl,rfl,rfl,rfl⟩:f0=true/\f1=true/\f2=true/\f3=true/\f4=true:=by
   revert hn;cases f0<;>cases f1<;>cases f2<;>cases f3<;>cases f4<;>simp[lV]
  obtain⟨rA,rfl,la,ua,xa⟩:=K.c0 rfl;obtain⟨rB,rfl,lb,ub,xb⟩:=K.c1 rfl;obtain⟨b5,rfl,l5,u5,x5⟩:=K.c2 rfl;obtain⟨b6,rfl,l6,u6,x6⟩:=K.c3 rfl;have hne:b5≠b6:=fun e=>K.ne23 rfl rfl (by rw[e]);have hrr:rA≠rB:=fun e=>K.ne01 rfl rfl (by rw[e]);have ha6:rA≠b6:=fun e=>by rw[<-e,xa] at x6;cases x6
  have hb6:rB≠b6:=fun e=>by rw[<-e,xb] at x6;cases x6
  refine wpAny_all (rs:= [5]) Yd (by simp) (fun i hi=> ?_);obtain rfl:i=5:=by simpa using hi
  refine wpOp_step (by rfl) (fun K' hK=> ?_);simp only[jZ,Tryd.f41,LA];have y6:w.cell? ⟨b6,0,none⟩=some (.chan none):=by simp[World.cell?,x6]
  have z6:w.frozen? ⟨b6,0,none⟩=false:=by simp[World.frozen?,x6]
  go_simp;refine hK _ _ (wpAny_done Ye (hQ rA rB b5 b6 _ (K.bel.setCell l6 _) la lb l5 l6 hrr hne ?_ ?_ ?_ ?_) 0)
  ·exact(Below.heap_setCell w _ _ _ ha6).trans xa
  ·exact(Below.heap_setCell w _ _ _ hb6).trans xb
  ·exact(Below.heap_setCell w _ _ _ hne).trans x5
  ·exact heap_set x6
 |succ n ih=>
  intro f0 f1 f2 f3 f4 t5 t6 t11 t12 w hn h4 K;have hr:=Yc f0 f1 f2 f3 f4 h4 (by rintro rfl rfl rfl rfl rfl;simp[lV] at hn);have hsz: ∀(o:Obj),(w.alloc o).heap.size=w.heap.size+1:=fun o=>by simp
  refine⟨fun h0=> ?_,fun i hi=> ?_⟩
  ·rw[hr] at h0
   revert h0 hn h4;cases f0<;>cases f1<;>cases f2<;>cases f3<;>cases f4<;>simp[lV]
  ·rw[hr] at hi
   rcases List.mem_append.1 hi with hi |hi
   ·obtain⟨rfl,rfl⟩:f0=false/\i=0:=by cases f0<;>simp_all
    obtain rfl:f4=false:=by cases f4<;>simp_all
    refine wpOp_step (by rfl) (fun K' hK=> ?_);simp only[jZ,Tryd.f41,LA];have hm:=KW w;go_simp;refine hK _ _ (ih true f1 f2 f3 false t5 t6 (.chan (some w.heap.size)) t12 _ ?_ (by intro e;cases e) ?_)
    ·simp only[lV,cond_true,cond_false] at hn ⊢; omega
    ·refine⟨bM K.bel,fun _=>⟨_,rfl,K.bel.size,by rw[hsz];omega,lU⟩,fun e=> ?_,fun e=> ?_,fun e=> ?_,fun _ e=> ?_,K.ne23⟩
     ·obtain⟨r,q1,q2,q3,q4⟩:=K.c1 e;exact⟨r,q1,q2,by rw[hsz];omega,jf q4⟩
     ·obtain⟨r,q1,q2,q3,q4⟩:=K.c2 e;exact⟨r,q1,q2,by rw[hsz];omega,jf q4⟩
     ·obtain⟨r,q1,q2,q3,q4⟩:=K.c3 e;exact⟨r,q1,q2,by rw[hsz];omega,jf q4⟩
     ·obtain⟨r,rfl,q2,q3,q4⟩:=K.c1 e;intro e';injection e' with e';injection e' with e';omega
   rcases List.mem_append.1 hi with hi |hi
   ·obtain⟨rfl,rfl⟩:f1=false/\i=1:=by cases f1<;>simp_all
    refine wpOp_step (by rfl) (fun K' hK=> ?_);simp only[jZ,Tryd.f41,LA];have hm:=KW w;go_simp;refine hK _ _ (ih f0 true f2 f3 f4 t5 t6 t11 (.chan (some w.heap.size)) _ ?_ h4 ?_)
    ·simp only[lV,cond_true,cond_false] at hn ⊢; omega
    ·refine⟨bM K.bel,fun e=> ?_,fun _=>⟨_,rfl,K.bel.size,by rw[hsz];omega,lU⟩,fun e=> ?_,fun e=> ?_,fun e _=> ?_,K.ne23⟩
     ·obtain⟨r,q1,q2,q3,q4⟩:=K.c0 e;exact⟨r,q1,q2,by rw[hsz];omega,jf q4⟩
     ·obtain⟨r,q1,q2,q3,q4⟩:=K.c2 e;exact⟨r,q1,q2,by rw[hsz];omega,jf q4⟩
     ·obtain⟨r,q1,q2,q3,q4⟩:=K.c3 e;exact⟨r,q1,q2,by rw[hsz];omega,jf q4⟩
     ·obtain⟨r,rfl,q2,q3,q4⟩:=K.c0 e;intro e';injection e' with e';injection e' with e';omega
   rcases List.mem_append.1 hi with hi |hi
   ·obtain⟨rfl,rfl⟩:f2=false/\i=2:=by cases f2<;>simp_all
    obtain rfl:f4=false:=by cases f4<;>simp_all
    refine wpOp_step (by rfl) (fun K' hK=> ?_);simp only[jZ,Tryd.f41,LA];go_simp;refine hK _ _ (ih f0 f1 true f3 false (.pointer (some ⟨w.heap.size,0,none⟩)) t6 t11 t12 _ ?_ (by intro e;cases e) ?_)
    ·simp only[lV,cond_true,cond_false] at hn ⊢; omega
    ·refine⟨bM K.bel,fun e=> ?_,fun e=> ?_,fun _=>⟨_,rfl,K.bel.size,by rw[hsz];omega,lU⟩,fun e=> ?_,K.ne01,fun _ e=> ?_⟩
     ·obtain⟨r,q1,q2,q3,q4⟩:=K.c0 e;exact⟨r,q1,q2,by rw[hsz];omega,jf q4⟩
     ·obtain⟨r,q1,q2,q3,q4⟩:=K.c1 e;exact⟨r,q1,q2,by rw[hsz];omega,jf q4⟩
     ·obtain⟨r,q1,q2,q3,q4⟩:=K.c3 e;exact⟨r,q1,q2,by rw[hsz];omega,jf q4⟩
     ·obtain⟨r,rfl,q2,q3,q4⟩:=K.c3 e;intro e';injection e' with e';injection e' with e';injection e' with e';omega
   rcases List.mem_append.1 hi with hi |hi
   ·obtain⟨rfl,rfl⟩:f3=false/\i=3:=by cases f3<;>simp_all
    obtain rfl:f4=false:=by cases f4<;>simp_all
    refine wpOp_step (by rfl) (fun K' hK=> ?_);simp only[jZ,Tryd.f41,LA];go_simp;refine hK _ _ (ih f0 f1 f2 true false t5 (.pointer (some ⟨w.heap.size,0,none⟩)) t11 t12 _ ?_ (by intro e;cases e) ?_)
    ·simp only[lV,cond_true,cond_false] at hn ⊢; omega
    ·refine⟨bM K.bel,fun e=> ?_,fun e=> ?_,fun e=> ?_,fun _=>⟨_,rfl,K.bel.size,by rw[hsz];omega,lU⟩,K.ne01,fun e _=> ?_⟩
     ·obtain⟨r,q1,q2,q3,q4⟩:=K.c0 e;exact⟨r,q1,q2,by rw[hsz];omega,jf q4⟩
     ·obtain⟨r,q1,q2,q3,q4⟩:=K.c1 e;exact⟨r,q1,q2,by rw[hsz];omega,jf q4⟩
     ·obtain⟨r,q1,q2,q3,q4⟩:=K.c2 e;exact⟨r,q1,q2,by rw[hsz];omega,jf q4⟩
     ·obtain⟨r,rfl,q2,q3,q4⟩:=K.c2 e;intro e';injection e' with e';injection e' with e';injection e' with e';omega
   ·obtain⟨rfl,rfl,rfl,rfl,rfl⟩:f0=true/\f2=true/\f3=true/\f4=false/\i=4:=by cases f0<;>cases f2<;>cases f3<;>cases f4<;>simp_all
    obtain⟨rA,rfl,la,ua,xa⟩:=K.c0 rfl;obtain⟨b5,rfl,l5,u5,x5⟩:=K.c2 rfl;obtain⟨b6,rfl,l6,u6,x6⟩:=K.c3 rfl;have hne:b6≠b5:=fun e=>K.ne23 rfl rfl (by rw[e]);have x5':w.heap[b5]? =some (.cells #[.chan none] 121 (0,0)):=x5;have ha5:rA≠b5:=fun e=>by rw[<-e,xa] at x5';cases x5'
    have y5:w.cell? ⟨b5,0,none⟩=some (.chan none):=by simp[World.cell?,x5']
    have z5:w.frozen? ⟨b5,0,none⟩=false:=by simp[World.frozen?,x5']
    refine wpOp_step (by rfl) (fun K' hK=> ?_);simp only[jZ,Tryd.f41,LA];go_simp;refine hK _ _ (ih true f1 true true true (.pointer (some ⟨b5,0,none⟩)) (.pointer (some ⟨b6,0,none⟩)) (.chan (some rA)) t12 _ ?_ (fun _=>⟨rfl,rfl,rfl⟩) ?_)
    ·simp only[lV,cond_true,cond_false] at hn ⊢; omega
    ·refine⟨K.bel.setCell l5 _,fun _=>⟨rA,rfl,la,by simpa using ua,(Below.heap_setCell w _ _ _ ha5).trans xa⟩,fun e=> ?_,fun _=>⟨b5,rfl,l5,by simpa using u5,heap_set x5'⟩,fun _=>⟨b6,rfl,l6,by simpa using u6,(Below.heap_setCell w _ _ _ hne).trans x6⟩,K.ne01,K.ne23⟩;obtain⟨r,rfl,q2,q3,q4⟩:=K.c1 e;have hr5:r≠b5:=fun e=>by rw[<-e,q4] at x5';cases x5'
     exact⟨r,rfl,q2,by simpa using q3,(Below.heap_setCell w _ _ _ hr5).trans q4⟩
noncomputable def fV:Code:=match Tryd.f41.body with
 |some (.seq _ (.seq _ c))=>c
 |_=> .skip
noncomputable def KX:Code:=match Tryd.f41.body with
 |some (.seq c _)=>c
 |_=> .skip
theorem Yg (V:BkV) (B:Bk) (ts:Option Addr) (tn tcap:Nat) (w:wD) (Q:List Item->Act->wD->Prop)
  (hQ: ∀bb trb rA rB b5 b6 w',Below w.heap.size w w'->w.heap.size<=bb->w.heap.size<=trb->w.heap.size<=rA->w.heap.size<=rB->w.heap.size<=b5->w.heap.size<=b6->rA≠rB->b5≠b6->jy w' rA->jy w' rB->
   w'.heap[bb]? =some (.cells #[.int qi B.hours,.slice V.ta B.towns.length V.tc,.slice V.la B.links.length V.lc,.slice V.pa B.pairs.length V.pc] 81 (0,0))->w'.heap[trb]? =some (.cells #[.slice ts tn tcap] 42 (0,0))->
   w'.heap[b5]? =some (.cells #[.chan (some rA)] 121 (0,0))->w'.heap[b6]? =some (.cells #[.chan (some rB)] 121 (0,0))->
   Q [.code fV] (LA (.pointer (some ⟨bb,0,none⟩)) (.pointer (some ⟨trb,0,none⟩)) (.slice none 0 0) (.pointer (some ⟨b5,0,none⟩)) (.pointer (some ⟨b6,0,none⟩)) (.chan (some rA)) (.chan (some rB)) (V.val B) (.slice ts tn tcap)) w'):
  Comes tP [.code (Tryd.f41.body.getD .skip)] Q ⟨#[V.val B,.slice ts tn tcap,ud,ud,ud,ud,ud,ud,ud,ud,ud,ud,ud,ud,ud,ud,ud,ud,ud,ud,ud,ud,ud,ud,ud,ud,ud,ud,ud,ud,ud,ud,ud,ud,ud,ud,ud,ud,ud,ud,ud,ud,ud,ud,ud,ud,ud,ud,ud,ud],[]⟩ w:=by
 show Comes tP [.code (.seq KX (.seq (.region 1 jZ true) fV))] _ _ _
 refine oD ?_;simp only[KX,Tryd.f41,BkV.val];go_wp2;have hb2:Below w.heap.size w ((w.alloc (.cells #[.int qi B.hours,.slice V.ta B.towns.length V.tc,.slice V.la B.links.length V.lc,.slice V.pa B.pairs.length V.pc] 81)).alloc (.cells #[.slice ts tn tcap] 42)):=bM (bM (Below.refl _ _));refine oD ?_;refine wp_region_any (by kernel_rfl) ?_;refine Yf _ (.pointer (some ⟨w.heap.size,0,none⟩)) (.pointer (some ⟨w.heap.size+1,0,none⟩)) (.slice none 0 0) (V.val B) (.slice ts tn tcap) _ ?_ 5 false false false false false ud ud ud ud _ rfl (by intro e;cases e)
  ⟨(Below.refl _ _).drew,(by intro e;cases e),(by intro e;cases e),(by intro e;cases e),(by intro e;cases e),(by intro e;cases e),(by intro e;cases e)⟩
 intro rA rB b5 b6 w' hb la lb l5 l6 hrr hne xa xb x5 x6;have hsz:((w.alloc (.cells #[.int qi B.hours,.slice V.ta B.towns.length V.tc,.slice V.la B.links.length V.lc,.slice V.pa B.pairs.length V.pc] 81)).alloc (.cells #[.slice ts tn tcap] 42)).heap.size=w.heap.size+2:=by simp
 rw[hsz] at la lb l5 l6;refine dO (hQ w.heap.size (w.heap.size+1) rA rB b5 b6 w' (hb2.trans (hb.mono hb2.size)) (Nat.le_refl _) (Nat.le_succ _) (by omega) (by omega) (by omega) (by omega) hrr hne xa xb ?_ ?_ x5 x6)
 ·rw[hb.block _ (by rw[hsz];omega)];exact jf lU
 ·rw[hb.block _ (by rw[hsz];omega)];have:=lU (w:=w.alloc (.cells #[.int qi B.hours,.slice V.ta B.towns.length V.tc,.slice V.la B.links.length V.lc,.slice V.pa B.pairs.length V.pc] 81)) (o:= .cells #[.slice ts tn tcap] 42);rw[World.size_alloc] at this;exact this
def bG (u0:wD) (o:Option Addr):Prop:= ∀a,o=some a-> ∃c t z,u0.heap[a.block]? =some (.cells c t z)
structure fB (u0:wD) (V:BkV) (B:Bk) (tb tofs:Nat) (T:Nat->Int):Prop where
 fine:B.Fine
 steps: ∀(i:Nat) (L:Lnk),B.links[i]? =some L->1<=L.steps.length
 book:bT u0 V B
 tr:bK u0 tb tofs B.links.length T
 ta:bG u0 V.ta
 la:bG u0 V.la
 pa:bG u0 V.pa
 g0:u0.cell? ⟨0,0,none⟩=some (.func (.func 116) #[] #[])
 g1:u0.cell? ⟨1,0,none⟩=some (.func (.func 117) #[] #[])
 gl:tP.globals.size<=u0.heap.size
abbrev KY (V:BkV) (B:Bk):Obj:= .cells #[.int qi B.hours,.slice V.ta B.towns.length V.tc,.slice V.la B.links.length V.lc,.slice V.pa B.pairs.length V.pc] 81 (0,0)
structure MK (u0:wD) (V:BkV) (B:Bk) (tb tofs tcap bb trb rA rB b5 b6:Nat) (H:Hold) (u:wD):Prop where
 old: ∀b,b<u0.heap.size->u.heap[b]? =u0.heap[b]?
 sz:u0.heap.size<=u.heap.size
 shd: ∀b,b<u0.heap.size->H.mine b\/H.sh b
 hd: ∀x∈ [bb,trb,b5,b6],H.mine x\/H.sh x
 rb:u.heap[bb]? =some (KY V B)
 rt:u.heap[trb]? =some (.cells #[.slice (some ⟨tb,tofs,none⟩) B.links.length tcap] 42 (0,0))
 r5:u.heap[b5]? =some (.cells #[.chan (some rA)] 121 (0,0))
 r6:u.heap[b6]? =some (.cells #[.chan (some rB)] 121 (0,0))
section
variable {u0:wD} {V:BkV} {B:Bk} {tb tofs tcap bb trb rA rB b5 b6:Nat} {H:Hold} {u u':wD} {T:Nat->Int}
theorem MK.off (M:MK u0 V B tb tofs tcap bb trb rA rB b5 b6 H u) (ho:Off H u u'):MK u0 V B tb tofs tcap bb trb rA rB b5 b6 H u':=
 ⟨fun b hb=>by rw[ho.keep b (Nat.lt_of_lt_of_le hb M.sz) (M.shd b hb)];exact M.old b hb,Nat.le_trans M.sz ho.size,M.shd,M.hd,aY ho (M.hd _ (by simp)) M.rb,aY ho (M.hd _ (by simp)) M.rt,aY ho (M.hd _ (by simp)) M.r5,aY ho (M.hd _ (by simp)) M.r6⟩
theorem MK.does {H':Hold} (M:MK u0 V B tb tofs tcap bb trb rA rB b5 b6 H u) (hz:u.heap.size<=u'.heap.size) (hh: ∀x,H.mine x\/H.sh x->H'.mine x\/H'.sh x) (hk: ∀b,b<u0.heap.size\/b∈ [bb,trb,b5,b6]->u'.heap[b]? =u.heap[b]?):MK u0 V B tb tofs tcap bb trb rA rB b5 b6 H' u':=
 ⟨fun b hb=>by rw[hk b (.inl hb)];exact M.old b hb,Nat.le_trans M.sz hz,fun b hb=>hh _ (M.shd b hb),fun x hx=>hh _ (M.hd x hx),by rw[hk _ (.inr (by simp))];exact M.rb,by rw[hk _ (.inr (by simp))];exact M.rt,by rw[hk _ (.inr (by simp))];exact M.r5,by rw[hk _ (.inr (by simp))];exact M.r6⟩
theorem MK.alloc (M:MK u0 V B tb tofs tcap bb trb rA rB b5 b6 H u) (o:Obj):MK u0 V B tb tofs tcap bb trb rA rB b5 b6 (H.more u (u.alloc o)) (u.alloc o):=by
 refine M.does (by simp) (fun x hx=>hx.imp .inl id) fun b hb=>Below.heap_alloc u o _ ?_
 rcases hb with hb |hb
 ·exact Nat.lt_of_lt_of_le hb M.sz
 ·simp only[List.mem_cons,List.not_mem_nil,or_false] at hb
  rcases hb with rfl |rfl |rfl |rfl
  ·exact(aS.1 M.rb).1
  ·exact(aS.1 M.rt).1
  ·exact(aS.1 M.r5).1
  ·exact(aS.1 M.r6).1
theorem MK.share (M:MK u0 V B tb tofs tcap bb trb rA rB b5 b6 H u):MK u0 V B tb tofs tcap bb trb rA rB b5 b6 ⟨fun _=>False,fun b=>H.mine b\/H.sh b⟩ u:=M.does (Nat.le_refl _) (fun _ hx=> .inr hx) fun _ _=>rfl
theorem aA {u:wD} {n:Nat} {c:Array vL} {t:TypeId} {z:Nat×Nat} (h:u.heap[n]? =some (.cells c t z)) {i:Nat} {v:vL} (hc:c[i]? =some v):u.cell? ⟨n,i,none⟩=some v:=by
 simp[World.cell?,h,hc]
theorem Yh (hk: ∀b,b<u0.heap.size->u.heap[b]? =u0.heap[b]?) {p:Addr} {v:vL} (h:u0.cell? p=some v):u.cell? p=some v:=by
 rw[World.cell?_of_block (w:=u0) (hk p.block (World.block_lt_of_cell? u0 p h))];exact h
theorem qH {D:Nat->Prop} (hk: ∀b,b<u0.heap.size->u.heap[b]? =u0.heap[b]?) (hD: ∀b,b<u0.heap.size->D b) {b:Nat} (h: ∃c t z,u0.heap[b]? =some (.cells c t z)):iU D u b:=by
 obtain⟨c,t,z,h⟩:=h;have hl:=(aS.1 h).1;exact⟨hD b hl,c,t,z,by rw[hk b hl];exact h⟩
theorem jg {D:Nat->Prop} (hk: ∀b,b<u0.heap.size->u.heap[b]? =u0.heap[b]?) {p:Addr} {v:vL} (h:u0.cell? p=some v) (hn:lQ jY (iU D u) v):(frz jY D u).cell? p=some v:=
 lT (Yh hk h) hn
theorem sJ {D:Nat->Prop} {o:Option Addr} {n c:Nat} (h: ∀a,o=some a->iU D u a.block):lQ jY (iU D u) (.slice o n c):=by
 cases o with
 |none=>trivial
 |some a=>exact h a rfl
theorem Yi {D:Nat->Prop} (hk: ∀b,b<u0.heap.size->u.heap[b]? =u0.heap[b]?) (hD: ∀b,b<u0.heap.size->D b) (L:fB u0 V B tb tofs T):bT (frz jY D u) V B:=by
 constructor
 ·intro i t hi;obtain⟨b,o,x,y⟩:=L.book.towns i t hi;exact⟨b,o,x,jg hk y trivial⟩
 ·intro i l hi;obtain⟨b,o,sa,sc,x,y1,y2,y3,z⟩:=L.book.links i l hi;refine⟨b,o,sa,sc,x,jg hk y1 trivial,jg hk y2 trivial,jg hk y3 (sJ fun a ha=> ?_),fun k s hs=> ?_⟩
  ·have h1:=L.steps i l hi;obtain⟨b',o',p,q,_⟩:=z 0 _ (lG (by omega));rw[p,Option.some.injEq] at ha;subst ha;exact qH hk hD (sH q)
  ·obtain⟨b',o',p,q,r⟩:=z k s hs;exact⟨b',o',p,jg hk q trivial,jg hk r trivial⟩
 ·intro i l hi;obtain⟨b,o,sa,sc,x,y1,y2,y3,z⟩:=L.book.pairs i l hi;refine⟨b,o,sa,sc,x,jg hk y1 trivial,jg hk y2 trivial,jg hk y3 (sJ fun a ha=> ?_),fun k s hs=> ?_⟩
  ·have h1:=(L.fine.calls i l hi).1;have h2:=L.fine.hours;obtain⟨b',o',p,q,_⟩:=z 0 _ (lG (by omega));rw[p,Option.some.injEq] at ha;subst ha;exact qH hk hD (sH q)
  ·obtain⟨b',o',p,q,r⟩:=z k s hs;exact⟨b',o',p,jg hk q trivial,jg hk r trivial⟩
theorem Yj {D:Nat->Prop} (hk: ∀b,b<u0.heap.size->u.heap[b]? =u0.heap[b]?) (L:fB u0 V B tb tofs T):bK (frz jY D u) tb tofs B.links.length T:=
 ⟨fun k hk'=>jg hk (L.tr.get k hk') trivial,L.tr.pos⟩
theorem Yk (φ:Ph) (hA:φ.chA=rA) (hB:φ.chB=rB) (k hb:Nat) (L:fB u0 V B tb tofs T) (M:MK u0 V B tb tofs tcap bb trb rA rB b5 b6 H u) (hhb:H.mine hb\/H.sh hb) (hrow:u.heap[hb]? =some (.cells #[.int qi (k:Int)] 3 (0,0)))
  (hh:(k:Int)<B.hours) (hval:φ.val k=found B T k) (hisA:φ.isA k=decide (0<=B.lackIn T true k)):
  MV tP false (AtSend tP φ k) (⟨fun _=>False,fun b=>H.mine b\/H.sh b⟩,born tP (qG bb hb trb b6 b5),u):=by
 subst hA hB;have hD: ∀b,b<u0.heap.size->(fun b=>H.mine b\/H.sh b) b:=M.shd;have hr: ∀{o:Option Addr},bG u0 o-> ∀a,o=some a->iU (fun b=>H.mine b\/H.sh b) u a.block:=fun h a ha=>qH M.old hD (h a ha);have hlk:=L.fine.links;have htw:=L.fine.towns;unfold Bk.spokes at hlk;refine Yb φ H k V B L.fine bb hb trb tb tofs tcap b6 b5 T u _ rfl (Yi M.old hD L) (Yj M.old L) hh
  ⟨lT (aA M.rb (by rfl)) trivial,lT (aA M.rb (by rfl)) (sJ (hr L.ta)),lT (aA M.rb (by rfl)) (sJ (hr L.la)),lT (aA M.rb (by rfl)) (sJ (hr L.pa)),
   lT (aA hrow (by rfl)) trivial,lT (aA M.rt (by rfl)) ?_,jg M.old L.g0 ⟨by rfl,rfl,rfl⟩,jg M.old L.g1 ⟨by rfl,rfl,rfl⟩⟩
  (lT (aA M.r6 (by rfl)) trivial) (lT (aA M.r5 (by rfl)) trivial) hval hisA (Nat.le_trans L.gl M.sz) ?_
 ·exact qH M.old hD (sH (L.tr.get 0 (by omega)))
 ·intro b hb';simp only[List.mem_cons,List.not_mem_nil,or_false] at hb'
  rcases hb' with rfl |rfl |rfl |rfl |rfl |rfl |rfl
  ·exact qH M.old hD (sH L.g0)
  ·exact qH M.old hD (sH L.g1)
  ·exact⟨M.hd _ (by simp),_,_,_,M.rb⟩
  ·exact⟨hhb,_,_,_,hrow⟩
  ·exact⟨M.hd _ (by simp),_,_,_,M.rt⟩
  ·exact⟨M.hd _ (by simp),_,_,_,M.r6⟩
  ·exact⟨M.hd _ (by simp),_,_,_,M.r5⟩
end
noncomputable def hbody:Code:=match fV with
 | .seq (.seq _ (.block _ (.loop c))) _=>c
 |_=> .skip
def LH (x2 x3 x4 t5 t6 t7 t11 t12 p0 p1 t13 t14 t15 t16 t17 t18 t19 t20:vL):Act:=⟨#[p0,p1,x2,x3,x4,t5,t6,t7,ud,ud,ud,t11,t12,t13,t14,t15,t16,t17,t18,t19,t20,ud,ud,ud,ud,ud,ud,ud,ud,ud,ud,ud,ud,ud,ud,ud,ud,ud,ud,ud,ud,ud,ud,ud,ud,ud,ud,ud,ud,ud],[]⟩
section
variable {u0:wD} {V:BkV} {B:Bk} {tb tofs tcap bb trb rA rB b5 b6:Nat} {T:Nat->Int}
theorem Yl (φ:Ph) (hA:φ.chA=rA) (hB:φ.chB=rB) (hHn:(φ.Hn:Int)=B.hours) (hval: ∀k,φ.val k=found B T k) (hisA: ∀k,φ.isA k=decide (0<=B.lackIn T true k)) (L:fB u0 V B tb tofs T) (Fin:Hold->Goroutine->wD->Prop)
  (b:Frame) (cs:List Frame) (kr:List Item) (hb:b.kind≠ .early) (x4 t11 t12 p0 p1 t13 t14:vL)
  (hrest: ∀(H:Hold) (u:wD) (t7 t16 t17 t18 t19 t20:vL),MK u0 V B tb tofs tcap bb trb rA rB b5 b6 H u->
   MV tP true (dU tP φ Fin φ.Hn φ.Hn []) (H,G (b.at (LH (.pointer (some ⟨bb,0,none⟩)) (.pointer (some ⟨trb,0,none⟩)) x4 (.pointer (some ⟨b5,0,none⟩)) (.pointer (some ⟨b6,0,none⟩)) t7 t11 t12 p0 p1 t13 t14 (.int qi B.hours) t16 t17 t18 t19 t20) kr) cs,u)):
  ∀(m k:Nat),k+m=φ.Hn-> ∀(H:Hold) (u:wD) (t7 t17 t18 t19 t20:vL),MK u0 V B tb tofs tcap bb trb rA rB b5 b6 H u->
   MV tP true (dU tP φ Fin (m+φ.Hn) k []) (H,G (b.at (LH (.pointer (some ⟨bb,0,none⟩)) (.pointer (some ⟨trb,0,none⟩)) x4 (.pointer (some ⟨b5,0,none⟩)) (.pointer (some ⟨b6,0,none⟩)) t7 t11 t12 p0 p1 t13 t14 (.int qi B.hours) (.int qi (k:Int)) t17 t18 t19 t20) (.code hbody:: .inLoop hbody:: .inBlock 0::kr)) cs,u):=by
 intro m
 induction m with
 |zero=>
  intro k hk H u t7 t17 t18 t19 t20 M;obtain rfl:k=φ.Hn:=by omega
  rw[Nat.zero_add];simp only[hbody,fV,Tryd.f41];refine dZ (fU (kN rfl rfl hb (.bool false) (fun u'=> ?_) (fun u'=> ?_) (fG ?_)))
  ·simp[go_sem,LH];omega
  ·simp[go_sem,LH]
  refine dZ (oC false rfl ?_);refine Kt rfl ?_;exact hrest H u t7 _ _ _ _ _ M
 |succ m ih=>
  intro k hk H u t7 t17 t18 t19 t20 M;have hlt:(k:Int)<B.hours:=by omega
  simp only[hbody,fV,Tryd.f41];refine dZ (fU (kN rfl rfl hb (.bool true) (fun u'=> ?_) (fun u'=> ?_) (fG ?_)))
  ·simp[go_sem,LH];omega
  ·simp[go_sem,LH]
  refine dZ (oC true rfl (Kq (dZ (qA (dZ (fU ?_))))));refine kN rfl rfl hb (.int qi (k:Int)) (fun u'=> ?_) (fun u'=> ?_) ?_
  ·simp[go_sem,LH]
  ·simp[go_sem,LH]
  refine Kv rfl rfl hb (fun n=> .pointer (some ⟨n,0,none⟩)) (.cells #[.int qi 0] 3) (fun u'=> ?_) (fun u'=> ?_) (fun u1 ho1=> ?_)
  ·simp[go_sem]
  ·simp[go_sem]
  have M1:=(M.off ho1).alloc (.cells #[.int qi 0] 3);have hm1:(H.more u1 (u1.alloc (.cells #[.int qi 0] 3))).mine u1.heap.size:= .inr ⟨Nat.le_refl _,by simp⟩;have hr1:(u1.alloc (.cells #[.int qi 0] 3)).heap[u1.heap.size]? =some (.cells #[.int qi 0] 3 (0,0)):=lU;generalize hH1:H.more u1 (u1.alloc (.cells #[.int qi 0] 3))=H1 at M1 hm1;generalize hn:u1.heap.size=n at hm1 hr1;have hnew:u0.heap.size<=n/\n∉ [bb,trb,b5,b6]:=by
   have M0:=M.off ho1;refine⟨hn▸M0.sz,fun hmem=> ?_⟩;have q1:=(aS.1 M0.rb).1;have q2:=(aS.1 M0.rt).1;have q3:=(aS.1 M0.r5).1;have q4:=(aS.1 M0.r6).1;simp only[List.mem_cons,List.not_mem_nil,or_false] at hmem;omega
  refine Kw rfl rfl hb fun u2 ho2=> ?_;have hr2:=aY ho2 (.inl hm1) hr1;have hc2:=aA hr2 (i:=0) (by rfl);have hf2:u2.frozen? ⟨n,0,none⟩=false:=by simp[World.frozen?,hr2]
  refine⟨H1,u2.setCell ⟨n,0,none⟩ (.int qi (k:Int)), ?_,.set H1 u2 _ _ hm1, ?_, ?_⟩
  ·simp[go_sem,LH,hc2,hf2]
  ·intro e he;simp[go_sem,LH,hc2,hf2] at he;subst he;exact .write hm1
  have M3:MK u0 V B tb tofs tcap bb trb rA rB b5 b6 H1 (u2.setCell ⟨n,0,none⟩ (.int qi (k:Int))):=(M1.off ho2).does (by simp) (fun _ hx=>hx) fun x hx=>qy _ _ _ (by
   intro e;simp only at e;subst e
   rcases hx with hx |hx
   ·exact absurd hnew.1 (by omega)
   ·exact hnew.2 hx)
  have hr3:(u2.setCell ⟨n,0,none⟩ (.int qi (k:Int))).heap[n]? =some (.cells #[.int qi (k:Int)] 3 (0,0)):=heap_set hr2;generalize u2.setCell ⟨n,0,none⟩ (.int qi (k:Int))=u3 at M3 hr3;clear hr2 hc2 hf2 ho2 hr1 ho1 M1 M hH1;refine fG (fU ?_);refine kN rfl rfl hb (.func (.func 68) #[] #[.pointer (some ⟨bb,0,none⟩),.pointer (some ⟨n,0,none⟩),.pointer (some ⟨trb,0,none⟩),.pointer (some ⟨b6,0,none⟩),.pointer (some ⟨b5,0,none⟩)]) (fun u'=> ?_) (fun u'=> ?_) ?_
  ·simp[go_sem,LH]
  ·simp[go_sem]
  have hsm:dU tP φ Fin (m+1+φ.Hn) k []=AtGo tP φ k (MV tP true (dU tP φ Fin (m+φ.Hn) (k+1) [])):=by
   rw[show m+1+φ.Hn=(m+φ.Hn)+1 by omega]
   funext H g u
   simp only[dU];rw[if_pos (by omega)]
  refine Ws hsm rfl rfl hb (qG bb n trb b6 b5) rfl (fun u'=> ?_) (fun u'=> ?_) (fun u4 ho4=>Yk φ hA hB k n L (M3.off ho4) (.inl hm1) (aY ho4 (.inl hm1) hr3) hlt (hval k) (hisA k)) fun u4 ho4=> ?_
  ·simp[go_sem,LH,qG]
  ·simp[go_sem,LH]
  have M4:=M3.off ho4;have M5:=M4.share;refine fG (sG (fU ?_));refine kN rfl rfl hb (.int qi ((k:Int)+1)) (fun u'=> ?_) (fun u'=> ?_) ?_
  ·have hw:IntKind.i64.wrap ((k:Int)+1)=(k:Int)+1:=IntWalk.i64_in _ (by have:=L.fine.hours;omega);simp[go_sem,LH,hw]
  ·simp[go_sem,LH]
  refine kN rfl rfl hb (.int qi ((k:Int)+1)) (fun u'=> ?_) (fun u'=> ?_) ?_
  ·simp[go_sem,LH]
  ·simp[go_sem]
  refine fG (DU ?_);have:=ih (k+1) (by omega) _ u4 (.pointer (some ⟨n,0,none⟩)) (.bool true) (.int qi (k:Int)) (.func (.func 68) #[] #[.pointer (some ⟨bb,0,none⟩),.pointer (some ⟨n,0,none⟩),.pointer (some ⟨trb,0,none⟩),.pointer (some ⟨b6,0,none⟩),.pointer (some ⟨b5,0,none⟩)]) (.int qi ((k:Int)+1)) M5;rw[show ((k+1 :Nat):Int)=(k:Int)+1 by omega] at this;exact this
end
end Go.Proofs.YtfiiffnbggnkfaaDoor
