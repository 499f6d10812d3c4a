/- A part of the proof of a law; no conditions of its own. -/
import Derived.Test.YtaikibfkggglgaaDoorReal01
set_option maxRecDepth 100000
open Nat renaming le_refl→nR
open Go.Lib renaming hid→lH
open Go.RowKit.Below renaming refl→bR
open Go.Proofs.Tryd renaming prog→tP
open List renaming getElem?_eq_getElem→lG
open Go.World renaming block_lt_of_cell?→wBk
open List renaming getD_eq_getElem?_getD→lD
set_option maxHeartbeats 4000000
namespace Go.Proofs.YtaikibfkggglgaaDoor
open Go.RowKit Go.Rent Go.Tp Go.Conc
theorem aeQ {B:Bk} {T:Nat->Int} (hT: ∀k,0<=T k) {n:Int} (hn:0<=n) (a b:Int) (k:Nat):0<=incr B T n a b k/\incr B T n a b k<=2*n:=by
 have:0<=adr B T a b:=by unfold adr;split;exact hT _;omega
 unfold incr
 split<;>split<;>(try split)<;>omega
theorem aeJ {B:Bk} {T c:Nat->Int} (hT: ∀k,0<=T k) (hc: ∀k,0<=c k/\c k<=1000) (k:Nat): ∀n:Nat,0<=adu B T c k n/\adu B T c k n<=2000*n
 | 0=>by unfold adu;omega
 |n+1=>by
  have h1:=aeJ (B:=B) hT hc k n;have h2:=aeQ (B:=B) hT (hc n).1 (B.pone n) (B.ptwo n) k;have h3:=hc n;unfold adu;omega
def ownB (B:Bk) (a b:Int) (j:Nat):Int:=if 0<=B.direct a b/\B.direct a b<j then B.direct a b else -1
def aeB (B:Bk) (T:Nat->Int) (a b:Int) (j:Nat):Int:=if 0<=B.direct a b/\B.direct a b<j then T (B.direct a b).toNat else 0
theorem c34 (V:BkV) (B:Bk) (xs cs:List Int) (xa ca:Option Addr) (xc cc k:Nat) (w:World) (hs:aB w V B) (hA:B.alarm=0) (hx:SlI w xa xs) (hxl:xs.length=B.links.length) (hc:SlI w ca cs) (hcl:cs.length=B.pairs.length) (hxb: ∀j,0<=trk xs j/\trk xs j<=1000) (hcb: ∀j,0<=trk cs j/\trk cs j<=1000):
  Calls tP 34 #[V.val B,.slice xa B.links.length xc,.slice ca B.pairs.length cc,.int .i64 (k:Int)] w fun e w'=>e= .returned (.int .i64 (adu B (trk xs) (trk cs) k B.pairs.length))/\Below w.heap.size w w':=by
 obtain⟨ta,la,pa,tc,lc,pc⟩:=V;have hB:=(gY hA).fine;have hll:=hB.links;have htt:=hB.towns;have hnp:=hB.pairs;have HE:=lH hB.ends;have HD:Hid (∀a b,B.direct a b= -1\/((B.towns.length:Int)-1<=B.direct a b/\B.direct a b<B.links.length)):=lH fun a b=>by
  have:=pF B hB a b;unfold Bk.spokes at this;omega
 have HDI:Hid (∀(a b:Int) (j:Nat),B.towns.length-1<=j->j<B.links.length->((B.one j=a/\B.two j=b)↔B.direct a b=(j:Int))):=lH fun a b j h1 h2=>aes hA a b h1 h2;have HP:Hid (∀i,i<B.pairs.length-> ∃b o sa sn sc,pa=some ⟨b,o,none⟩/\ ∀u,Below w.heap.size w u->u.cell? ⟨b,o+i*3,none⟩=some (.int .i64 (B.pone i))/\u.cell? ⟨b,o+i*3+1,none⟩=some (.int .i64 (B.ptwo i))/\u.cell? ⟨b,o+i*3+2,none⟩=some (.slice sa sn sc)):=lH fun i hi=>by
  have hL:B.pairs[i]? =some B.pairs[i]:=lG hi;have hpo:B.pone i=B.pairs[i].one:=by unfold Bk.pone;rw[hL];rfl
  have hpt:B.ptwo i=B.pairs[i].two:=by unfold Bk.ptwo;rw[hL];rfl
  obtain⟨b,o,sa,sc,e,h1,h2,h3,_⟩:=hs.pairs i _ hL;refine⟨b,o,sa,_,sc,e,fun u hu=>⟨?_, ?_,cell_below hu h3 (nR _)⟩⟩
  ·rw[hpo];exact cell_below hu h1 (nR _)
  ·rw[hpt];exact cell_below hu h2 (nR _)
 have HL:Hid (∀i,i<B.links.length-> ∃b o,la=some ⟨b,o,none⟩/\ ∀u,Below w.heap.size w u->u.cell? ⟨b,o+i*3,none⟩=some (.int .i64 (B.one i))/\u.cell? ⟨b,o+i*3+1,none⟩=some (.int .i64 (B.two i))):=lH fun i hi=>by
  have hL:B.links[i]? =some B.links[i]:=lG hi;have hpo:B.one i=B.links[i].one:=by unfold Bk.one;rw[hL];rfl
  have hpt:B.two i=B.links[i].two:=by unfold Bk.two;rw[hL];rfl
  obtain⟨b,o,sa,sc,e,h1,h2,h3,_⟩:=hs.links i _ hL;refine⟨b,o,e,fun u hu=>⟨?_, ?_⟩⟩
  ·rw[hpo];exact cell_below hu h1 (nR _)
  ·rw[hpt];exact cell_below hu h2 (nR _)
 have HSl: ∀{sa:Option Addr} {l:List Int},SlI w sa l-> ∀i,i<l.length-> ∃b o,sa=some ⟨b,o,none⟩/\ ∀u,Below w.heap.size w u->u.cell? ⟨b,o+i,none⟩=some (.int .i64 (trk l i)):=fun {sa l} h i hi=>by
  have e:l[i]? =some (trk l i):=by
   rw[lG hi];unfold trk;rw[lD,lG hi];rfl
  obtain⟨b,o,e,h0⟩:=h i _ e;exact⟨b,o,e,fun u hu=>cell_below hu h0 (nR _)⟩
 have HX:=lH (HSl hx);have HC:=lH (HSl hc);rw[hxl] at HX;rw[hcl] at HC;have HXb:=lH hxb;have HCb:=lH hcb;have HLb:=lH (aeJ (B:=B) (fun k=>(hxb k).1) hcb k);have HLs:Hid (∀i,adu B (trk xs) (trk cs) k (i+1)=adu B (trk xs) (trk cs) k i+incr B (trk xs) (trk cs i) (B.pone i) (B.ptwo i) k):=lH fun _=>rfl;have HI0:Hid (∀a b,incr B (trk xs) 0 a b k=0):=lH fun a b=>aeu (fun k=>(hxb k).1) a b k;have HIs:Hid (∀(n:Nat) a b,_):=lH fun n a b=>aev (B:=B) (T:=trk xs) n a b k;have HIb:Hid (∀(n:Nat) a b,_):=lH fun n a b=>aeQ (B:=B) (fun k=>(hxb k).1) (Int.natCast_nonneg n) a b k;have HOB:Hid (∀a b j,ownB B a b j=if 0<=B.direct a b/\B.direct a b<(j:Nat) then B.direct a b else -1):=lH fun _ _ _=>rfl;have HFB:Hid (∀a b j,aeB B (trk xs) a b j=if 0<=B.direct a b/\B.direct a b<(j:Nat) then trk xs (B.direct a b).toNat else 0):=lH fun _ _ _=>rfl;have HF:Hid (∀a b,adr B (trk xs) a b=if 0<=B.direct a b then trk xs (B.direct a b).toNat else 0):=lH fun _ _=>rfl;clear hs hx hc hxb hcb hA hB HSl;unfold Bk.spokes at hll;generalize trk xs=T at *;generalize trk cs=C at *;go_enter Tryd.func34,Tryd.ntmps34
 go_wp2_with fail
 generalize hWd:w.alloc (.cells #[.int .i64 B.hours,.slice ta B.towns.length tc,.slice la B.links.length lc,.slice pa B.pairs.length pc] 26)=W;have HBW:Hid (Below w.heap.size w W):=lH (by subst hWd;exact(bR _ _).alloc (nR _) _);have HW:Hid (W.cell? ⟨w.heap.size,1,none⟩=some (.slice ta B.towns.length tc)/\W.cell? ⟨w.heap.size,2,none⟩=some (.slice la B.links.length lc)/\W.cell? ⟨w.heap.size,3,none⟩=some (.slice pa B.pairs.length pc)):=lH (by subst hWd;exact⟨by go_simp,by go_simp,by go_simp⟩);clear hWd
 go_loopw [9,10] (fun n i wr=> ∃q:Nat,q<=B.pairs.length/\i= .int .i64 (q:Int)/\n= .int .i64 (adu B T C k q)/\Below W.heap.size W wr) (fun _ i _=>B.pairs.length-(intOf i).toNat)
 case atStart=>exact⟨0,Nat.zero_le _,rfl,rfl,bR _ _⟩
 case round=>
  obtain⟨q,hq,rfl,rfl,hb⟩:=hrel;have Hb:=lH hb;clear hb;obtain⟨k1,k2,k3⟩:=HW.out;replace k1:=cell_below Hb.out k1 (nR _);replace k2:=cell_below Hb.out k2 (nR _);replace k3:=cell_below Hb.out k3 (nR _);by_cases hlt:q<B.pairs.length
  ·obtain⟨pb,po,sa,sn,sc,e,hp⟩:=HP.out q hlt;subst e;obtain⟨p0,p1,p2⟩:=hp wr (HBW.out.trans (Hb.out.mono HBW.out.size));obtain⟨e1,e2,e3⟩:=HE.out q hlt;have hcq:=HCb.out q;obtain⟨cb,co,e,hcc⟩:=HC.out q hlt;subst e;have Hcc:=lH hcc;have Hld:=lH (HLs.out q);have hlb:=HLb.out q;generalize B.pone q=a at *;generalize B.ptwo q=b at *;generalize hs0:adu B T C k q=s at *;generalize hc0:C q=c at *;clear hs0 hc0 hp hcc;have hz0:=wBk _ _ k1;have hz1:=wBk _ _ p0
   go_wp2_with fail
   generalize hW2:wr.alloc (.cells #[.int .i64 a,.int .i64 b,.slice sa sn sc] 67)=W2;have HB2:Hid (Below W.heap.size W W2):=lH (by subst hW2;exact Hb.out.alloc Hb.out.size _);have HZ:Hid (W2.cell? ⟨wr.heap.size,0,none⟩=some (.int .i64 a)/\W2.cell? ⟨wr.heap.size,1,none⟩=some (.int .i64 b)):=lH (by subst hW2;exact⟨by go_simp,by go_simp⟩);clear hW2 k1 k2 k3 p0 p1 p2 Hb hz0 hz1;generalize wr.heap.size=z at *;obtain⟨wA,hwA⟩: ∃wA,wA=wr:=⟨wr,rfl⟩;subst hwA;have HFree:=lH (HF.out a b);have HD':=lH (HD.out a b);have HDI':=lH (HDI.out a b);have HOB':=lH (HOB.out a b);have HFB':=lH (HFB.out a b);clear HF HD HDI HOB HFB;have Hpub:=lH (And.intro hll (And.intro htt hnp))
   go_loopw [12,13,14] (fun f o i wr=> ∃j:Nat,j<=B.links.length/\B.towns.length-1<=j/\i= .int .i64 (j:Int)/\f= .int .i64 (aeB B T a b j)/\o= .int .i64 (ownB B a b j)/\Below W2.heap.size W2 wr) (fun _ _ i _=>B.links.length-(intOf i).toNat)
   case atStart=>
    refine⟨B.towns.length-1,hll.1,nR _,by go_num, ?_, ?_,bR _ _⟩
    ·rw[HFB'.out,if_neg (by have:=HD'.out;omega)]
    ·rw[HOB'.out,if_neg (by have:=HD'.out;omega)]
   case round=>
    obtain⟨j,hj,hj0,rfl,rfl,rfl,hb⟩:=hrel;have Hb:=lH hb;clear hb;obtain⟨k1,k2,k3⟩:=HW.out;replace k2:=cell_below (HB2.out.trans (Hb.out.mono HB2.out.size)) k2 (nR _);obtain⟨z0,z1⟩:=HZ.out;replace z0:=cell_below Hb.out z0 (nR _);replace z1:=cell_below Hb.out z1 (nR _);clear k1 k3;have HBw:Hid (Below w.heap.size w wr):=lH (HBW.out.trans ((HB2.out.trans (Hb.out.mono HB2.out.size)).mono HBW.out.size));by_cases hjl:j<B.links.length
    ·obtain⟨yb,yo,e,hl⟩:=HL.out j hjl;subst e;obtain⟨l0,l1⟩:=hl wr HBw.out;obtain⟨xb,xo,e,hxx⟩:=HX.out j hjl;subst e;have x0:=hxx wr HBw.out;have hdi:=HDI'.out j hj0 hjl;have Hof:=lH (And.intro (HOB'.out j) (And.intro (HOB'.out (j+1)) (And.intro (HFB'.out j) (HFB'.out (j+1)))));have HTj:Hid (T (j:Int).toNat=T j):=lH (by rw[Int.toNat_natCast]);clear hl hxx;generalize B.one j=p at *;generalize B.two j=r at *;have Hdi:=lH hdi;clear hdi;have hjli:(j:Int)<(B.links.length:Int):=by omega
     by_cases h12:p=a/\r=b
     ·obtain⟨h1,h2⟩:=h12;have hd:B.direct a b=(j:Int):=Hdi.out.1 ⟨h1,h2⟩;have R1:T j=aeB B T a b (j+1):=by rw[Hof.out.2.2.2,hd,if_pos (by omega),HTj.out]
      have R2:(j:Int)=ownB B a b (j+1):=by rw[Hof.out.2.1,hd,if_pos (by omega)]
      have HR:=lH (And.intro R1 R2);clear R1 R2 hd;subst h1 h2;generalize aeB B T p r j=f0 at *;generalize ownB B p r j=o0 at *;go_wp2
      go_region
      go_wp2
      go_region
      go_wp2;go_roundw
      case rel=>exact⟨j+1,by omega,by omega,by go_num,by rw[<-HR.out.1],by rw[<-HR.out.2],Hb.out.drew.drew⟩
      case measure=>simp[intOf];omega
     ·have hd: ¬B.direct a b=(j:Int):=fun e=>h12 (Hdi.out.2 e);have R1:aeB B T a b j=aeB B T a b (j+1):=by
       rw[Hof.out.2.2.1,Hof.out.2.2.2];by_cases h:0<=B.direct a b/\B.direct a b<(j:Int)
       ·rw[if_pos h,if_pos (by omega)]
       ·rw[if_neg h,if_neg (by omega)]
      have R2:ownB B a b j=ownB B a b (j+1):=by
       rw[Hof.out.1,Hof.out.2.1];by_cases h:0<=B.direct a b/\B.direct a b<(j:Int)
       ·rw[if_pos h,if_pos (by omega)]
       ·rw[if_neg h,if_neg (by omega)]
      have HR:=lH (And.intro R1 R2);clear R1 R2 hd Hof;generalize aeB B T a b j=f0 at *;generalize ownB B a b j=o0 at *;by_cases h1:p=a
      ·have hb2:(r==b)=false:=beq_eq_false_iff_ne.2 fun e=>h12 ⟨h1,e⟩;subst h1;clear h12;go_wp2
       go_region
       go_wp2;go_roundw
       case rel=>exact⟨j+1,by omega,by omega,by go_num,by rw[<-HR.out.1],by rw[<-HR.out.2],Hb.out.drew⟩
       case measure=>simp[intOf];omega
      ·have hb1:(p==a)=false:=beq_eq_false_iff_ne.2 h1;clear h12;go_wp2
       go_region
       go_wp2;go_roundw
       case rel=>exact⟨j+1,by omega,by omega,by go_num,by rw[<-HR.out.1],by rw[<-HR.out.2],Hb.out.drew⟩
       case measure=>simp[intOf];omega
    ·have R1:aeB B T a b j=adr B T a b:=by
      rw[HFB'.out,HFree.out];have:=HD'.out;by_cases h:0<=B.direct a b
      ·rw[if_pos h,if_pos (by omega)]
      ·rw[if_neg h,if_neg (by omega)]
     have R2:ownB B a b j=B.direct a b:=by
      rw[HOB'.out];have:=HD'.out;by_cases h:0<=B.direct a b
      ·rw[if_pos (by omega)]
      ·rw[if_neg (by omega)];omega
     have hF0:0<=adr B T a b/\adr B T a b<=1000:=by
      rw[HFree.out]
      split
      ·exact HXb.out _
      ·omega
     have hd:=HD'.out;rw[R1,R2];have HI0':=lH (HI0.out a b);have HIs':Hid (∀n:Nat,_):=lH fun n=>HIs.out n a b;have HIb':Hid (∀n:Nat,_):=lH fun n=>HIb.out n a b;have HLb':=lH (HLb.out q);have HWC:Hid (∀u,Below W2.heap.size W2 u->u.cell? ⟨w.heap.size,3,none⟩=some (.slice (some ⟨pb,po,none⟩) B.pairs.length pc)):=lH fun u hu=>cell_below (HB2.out.trans (hu.mono HB2.out.size)) HW.out.2.2 (nR _);clear R1 R2 HFB' HOB' HFree HD' HI0 HIs HIb HLb HX HL HDI' z0 z1;generalize adr B T a b=F at *;generalize B.direct a b=d at *
     go_wp2_with fail
     clear k2;obtain⟨wB,hwB⟩: ∃wB,wB=wr:=⟨wr,rfl⟩;subst hwB
     go_loopw [9,12,15] (fun n f i wr=> ∃m:Nat,(m:Int)<=c/\i= .int .i64 (m:Int)/\n= .int .i64 (s+incr B T m a b k)/\(∃f',f= .int .i64 f'/\(a≠0->f'=max 0 (F-m)))/\Below W2.heap.size W2 wr) (fun _ _ i _=>c.toNat-(intOf i).toNat)
     case atStart=>exact⟨0,hcq.1,rfl,by rw[show ((0 :Nat):Int)=0 from rfl,HI0'.out,Int.add_zero],⟨_,rfl,fun _=>by omega⟩,Hb.out⟩
     case round=>
      obtain⟨m,hm,rfl,rfl,⟨f',rfl,hf⟩,hb⟩:=hrel;have Hb9:=lH hb;have Hf:=lH hf;have x0:=Hcc.out wr (HBW.out.trans ((HB2.out.trans (hb.mono HB2.out.size)).mono HBW.out.size));obtain⟨z0,z1⟩:=HZ.out;replace z0:=cell_below hb z0 (nR _);replace z1:=cell_below hb z1 (nR _);have hib:=HIb'.out m;have Hinc:=lH (HIs'.out m);have h1m:((m+1 :Nat):Int)=(m:Int)+1:=by omega
      have Hm1:=lH h1m;clear hb hf h1m;by_cases hmc:(m:Int)<c
      ·generalize hyv:incr B T m a b k=y at *;clear hyv;have hsy:0<=s+y/\s+y<=100000:=by have:=HLb'.out;omega
       have Hs1:Hid (s+y+1=s+(y+1)):=lH (by omega);clear hlb hib;by_cases ha:a=0
       ·subst ha;rw[if_pos rfl] at Hinc;have hw1:IntKind.wrap .i64 (b-1)=b-1:=IntWalk.i64_in _ (by omega);by_cases hkb:(k:Int)=b-1
        ·rw[if_pos hkb] at Hinc;have hkb':((k:Int)==b-1)=true:=beq_iff_eq.2 hkb;have Hkb:=lH hkb;clear hkb;go_wp2;go_roundw
         case rel=>exact⟨m+1,by omega,by go_num,by rw[Hm1.out,Hinc.out,Hs1.out],⟨_,rfl,fun h=>absurd rfl h⟩,Hb9.out⟩
         case measure=>simp[intOf];omega
        ·rw[if_neg hkb,Int.add_zero] at Hinc;have hkb':((k:Int)==b-1)=false:=beq_eq_false_iff_ne.2 hkb;clear hkb;go_wp2;go_roundw
         case rel=>exact⟨m+1,by omega,by go_num,by rw[Hm1.out,Hinc.out],⟨_,rfl,fun h=>absurd rfl h⟩,Hb9.out⟩
         case measure=>simp[intOf];omega
       ·rw[if_neg ha] at Hinc;have hf:=Hf.out ha;have ha':(a==0)=false:=beq_eq_false_iff_ne.2 ha;by_cases hF:(m:Int)<F
        ·rw[if_pos hF] at Hinc;have hfp:0<f'/\f'<=1000:=by omega
         have Hfm:Hid (f'=F-m):=lH (by omega);clear hf Hf;by_cases hdk:d=(k:Int)
         ·rw[if_pos hdk] at Hinc;have Hdk:=lH hdk;have hkd:((k:Int)==d)=true:=beq_iff_eq.2 hdk.symm;clear hdk;go_wp2;go_roundw
          case rel=>exact⟨m+1,by omega,by go_num,by rw[Hm1.out,Hinc.out,Hs1.out],⟨_,rfl,fun _=>by rw[Hm1.out,Hfm.out];omega⟩,Hb9.out⟩
          case measure=>simp[intOf];omega
         ·rw[if_neg hdk,Int.add_zero] at Hinc;have hkd:((k:Int)==d)=false:=beq_eq_false_iff_ne.2 (Ne.symm hdk);clear hdk;go_wp2;go_roundw
          case rel=>exact⟨m+1,by omega,by go_num,by rw[Hm1.out,Hinc.out],⟨_,rfl,fun _=>by rw[Hm1.out,Hfm.out];omega⟩,Hb9.out⟩
          case measure=>simp[intOf];omega
        ·rw[if_neg hF] at Hinc;have hf0:f'=0:=by omega
         have HmF:=lH hF;subst hf0;clear hf Hf hF;have hw1:IntKind.wrap .i64 (b-1)=b-1:=IntWalk.i64_in _ (by omega);have hw2:IntKind.wrap .i64 (a-1)=a-1:=IntWalk.i64_in _ (by omega);by_cases hka:(k:Int)=a-1
         ·rw[if_pos (.inl hka)] at Hinc;have Hka:=lH hka;have hka':((k:Int)==a-1)=true:=beq_iff_eq.2 hka;clear hka;go_wp2;go_roundw
          case rel=>exact⟨m+1,by omega,by go_num,by rw[Hm1.out,Hinc.out,Hs1.out],⟨_,rfl,fun _=>by have:=HmF.out;rw[Hm1.out];omega⟩,Hb9.out⟩
          case measure=>simp[intOf];omega
         ·have hka':((k:Int)==a-1)=false:=beq_eq_false_iff_ne.2 hka;by_cases hkb:(k:Int)=b-1
          ·rw[if_pos (.inr hkb)] at Hinc;have Hkb:=lH hkb;have hkb':((k:Int)==b-1)=true:=beq_iff_eq.2 hkb;clear hkb hka;go_wp2;go_roundw
           case rel=>exact⟨m+1,by omega,by go_num,by rw[Hm1.out,Hinc.out,Hs1.out],⟨_,rfl,fun _=>by have:=HmF.out;rw[Hm1.out];omega⟩,Hb9.out⟩
           case measure=>simp[intOf];omega
          ·rw[if_neg (fun h=>h.elim hka hkb),Int.add_zero] at Hinc;have hkb':((k:Int)==b-1)=false:=beq_eq_false_iff_ne.2 hkb;clear hkb hka;go_wp2;go_roundw
           case rel=>exact⟨m+1,by omega,by go_num,by rw[Hm1.out,Hinc.out],⟨_,rfl,fun _=>by have:=HmF.out;rw[Hm1.out];omega⟩,Hb9.out⟩
           case measure=>simp[intOf];omega
      ·have hmc2:(m:Int)=c:=by omega
       rw[hmc2];have Hfin:=lH Hld.out.symm;clear hmc2 Hinc hib hlb;rw[Hfin.out];have hqq:q+1<=B.pairs.length:=by omega
       go_wp2;go_roundw
       case rel=>exact⟨q+1,hqq,by go_num,rfl,HB2.out.trans (Hb9.out.mono HB2.out.size)⟩
       case measure=>simp[intOf];omega
  ·have hqe:q=B.pairs.length:=by omega
   have Hqe:=lH hqe;have Hbk:=lH (HBW.out.trans (Hb.out.mono HBW.out.size));clear hqe;go_wp2;go_ret;exact⟨by rw[Hqe.out]<;>rfl,Hbk.out⟩
def aey (B:Bk) (most:Bool) (h n:Nat):List Int:=(List.range n).map (B.call most h)
theorem aeY (B:Bk) (most:Bool) (h n:Nat):ints (aey B most h (n+1))=ints (aey B most h n)++ [.int .i64 (B.call most h n)]:=by
 unfold aey ints;rw[List.range_succ];simp
theorem c36 (V:BkV) (B:Bk) (most:Bool) (h:Nat) (w:World) (hs:aB w V B) (hG:Good B) (hh:(h:Int)<B.hours):
  Calls tP 36 #[V.val B,.int .i64 (h:Int),.bool most] w fun e w'=> ∃v,e= .returned v/\w'.ownsRow w.heap.size 3 1 v B.pairs.length (ints (aey B most h B.pairs.length))/\Below w.heap.size w w':=by
 obtain⟨ta,la,pa,tc,lc,pc⟩:=V;have hnp:=hG.fine.pairs;have HC:Hid (∀k,k<B.pairs.length-> ∃b o sb so n sc lo up,pa=some ⟨b,o,none⟩/\(∀u,Below w.heap.size w u->u.cell? ⟨b,o+k*3+2,none⟩=some (.slice (some ⟨sb,so,none⟩) n sc)/\u.cell? ⟨sb,so+h*2,none⟩=some (.int .i64 lo)/\u.cell? ⟨sb,so+h*2+1,none⟩=some (.int .i64 up))/\h<n/\B.call most h k=if most then up else lo):=lH fun k hk=>by
  have hx:B.pairs[k]? =some B.pairs[k]:=lG hk;obtain⟨b,o,sa,sc,e,_,_,h3,h4,_⟩:=hs.pairs k _ hx;have hc:=(hG.fine.calls k _ hx).1;have hlt:h<B.pairs[k].calls.length:=by omega
  have hy:B.pairs[k].calls[h]? =some B.pairs[k].calls[h]:=lG hlt;obtain⟨sb,so,e2,g0,g1⟩:=h4 h _ hy;subst e2;refine⟨b,o,sb,so,_,sc,_,_,e,fun u hu=>⟨cell_below hu h3 (nR _),cell_below hu g0 (nR _),cell_below hu g1 (nR _)⟩,hlt, ?_⟩;unfold Bk.call;rw[hx];simp only[Option.bind_some,hy]
 clear hs hG hh;obtain⟨i0,hi,hz0,hz1,hz2⟩:=info_parts info3;go_enter Tryd.func36,Tryd.ntmps36
 go_wp2_with fail
 generalize hWd:w.alloc (.cells #[.int .i64 B.hours,.slice ta B.towns.length tc,.slice la B.links.length lc,.slice pa B.pairs.length pc] 26)=W;have HBW:Hid (Below w.heap.size w W):=lH (by subst hWd;exact(bR _ _).alloc (nR _) _);have HW3:Hid (W.cell? ⟨w.heap.size,3,none⟩=some (.slice pa B.pairs.length pc)):=lH (by subst hWd;go_simp);clear hWd
 go_loopw [7,8] (fun v i wr=> ∃k:Nat,k<=B.pairs.length/\i= .int .i64 (k:Int)/\wr.ownsRow W.heap.size 3 1 v k (ints (aey B most h k))/\Below W.heap.size W wr) (fun _ i _=>B.pairs.length-(intOf i).toNat)
 case atStart=>exact⟨0,Nat.zero_le _,rfl,World.ownsRow_nil _ _ _ _,bR _ _⟩
 case round=>
  obtain⟨k,hk,rfl,hown,hb⟩:=hrel;have Hown:=lH hown;have Hb:=lH hb;clear hown hb;have k3:=cell_below Hb.out HW3.out (nR _);by_cases hlt:k<B.pairs.length
  ·obtain⟨b,o,sb,so,n,sc,lo,up,e,hcs,hn,hval⟩:=HC.out k hlt;subst e;obtain⟨c0,c1,c2⟩:=hcs wr (HBW.out.trans (Hb.out.mono HBW.out.size));have z0:=wBk _ _ c0;have z1:=wBk _ _ c1;have hhn:(h:Int)<(n:Int):=by omega
   have Hval:=lH hval;have Hsn:=lH (aeY B most h k);clear hcs hval;generalize B.call most h k=y at *;have hkp:(k:Int)<(B.pairs.length:Int):=by omega
   have HB9:=lH (Hb.out.alloc Hb.out.size (.cells #[.int .i64 lo,.int .i64 up] 53));have HO9:=lH (Hown.out.alloc (.cells #[.int .i64 lo,.int .i64 up] 53));have HN:Hid (∀(z:Int) (j:Nat) (u:Value),([.int .i64 z]:List Value)[j]? =some u->((wr.alloc (.cells #[.int .i64 lo,.int .i64 up] 53)).alloc (.cells #[.int .i64 z] 3)).cell? ((⟨wr.heap.size+1,0,none⟩:Addr).add j)=some u):=lH fun z j u hj=>by
    match j,hj with
    | 0,hj=>cases hj;simp only[Addr.add];go_simp
   have H1c:Hid (∀(z:Int),∀u∈([.int .i64 z]:List Value),u.oneCell'=true):=lH fun z=>by simp[Value.oneCell']
   have Hb63:Hid (k+1<=maxLen):=lH (by unfold maxLen;omega);have Hbb:Hid ((k+1)*8<=140737488355328):=lH (by omega);have Hsz:Hid (W.heap.size<=wr.heap.size+1+1):=lH (by have:=Hb.out.size;omega)
   cases most
   all_goals
    simp only[Bool.false_eq_true,if_true,if_false] at Hval;have hy:=Hval.out;subst hy
    go_wp2_with (at_builtin;refine wpList_append_own _ rfl _ _ 27 rfl W.heap.size 3 i0 (.int .i64 0) 1 8 Tryd.underlying27 hi hz0 hz1 hz2 rfl (by decide) _ _ _ rfl (HO9.out.alloc _) ⟨wr.heap.size+1,0,none⟩ 1 1 [.int .i64 y] rfl rfl (HN.out y) (H1c.out y) Hb63.out Hbb.out (by simp only[World.size_alloc];exact Hsz.out) ?_)
    intro v' w4 hown' hgrow _;have R:=Bo HB9.out HO9.out hown' hgrow;rw[<-Hsn.out] at R;have HR:=lH R;clear hown' hgrow R;go_wp2;go_roundw
    case rel=>exact⟨k+1,by omega,by go_num,HR.out.1,HR.out.2⟩
    case measure=>simp[intOf];omega
  ·have hke:k=B.pairs.length:=by omega
   rw[hke] at Hown;have Hbk:=lH (HBW.out.trans (Hb.out.mono HBW.out.size));clear hke;go_wp2;go_ret;exact⟨_,rfl,Hown.out.base HBW.out.size,Hbk.out⟩
theorem aeZ {B:Bk} {T:Nat->Int} (hT: ∀k,0<=T k) {n m:Int} (h:n<=m) (a b:Int) (k:Nat):incr B T n a b k<=incr B T m a b k:=by
 have:0<=adr B T a b:=by unfold adr;split;exact hT _;omega
 unfold incr
 split<;>split<;>(try split)<;>omega
theorem aeF {B:Bk} {T c d:Nat->Int} (hT: ∀k,0<=T k) (h: ∀i,i<B.pairs.length->c i<=d i) (k:Nat): ∀n,n<=B.pairs.length->adu B T c k n<=adu B T d k n
 | 0,_=>Int.le_refl _
 |n+1,hn=>by
  have h1:=aeF hT h k n (by omega);have h2:=aeZ (B:=B) hT (h n (by omega)) (B.pone n) (B.ptwo n) k;unfold adu;omega
theorem aeE {B:Bk} (hA:B.alarm=0) (T:Nat->Int) (most:Bool) (h k:Nat):B.inn T most h k=adu B T (B.call most h) k B.pairs.length:=
 (adW (gY hA).fine hA T _ (fun i _=>(Gj B (gY hA).fine most h i).1) k _ (nR _)).symm
theorem aeK {B:Bk} (hB:B.Fine) (h i:Nat):B.call false h i<=B.call true h i:=by
 unfold Bk.call
 cases hp:B.pairs[i]? with
 |none=>simp
 |some p=>
  simp only[Option.bind_some]
  cases hc:p.calls[h]? with
  |none=>simp
  |some x=>
   have:=(hB.calls i p hp).2 h x hc;simp;omega
theorem ae0 {B:Bk} (hA:B.alarm=0) {T:Nat->Int} (hT: ∀k,0<=T k) (h k:Nat):B.inn T false h k<=B.inn T true h k:=by
 rw[aeE hA,aeE hA];exact aeF hT (fun i _=>aeK (gY hA).fine h i) k _ (nR _)
theorem ae1 {B:Bk} (hA:B.alarm=0) {T:Nat->Int} (hT: ∀k,0<=T k) (h:Nat) (hl:B.lackIn T true h<0):B.lackIn T false h<0:=by
 rw[vC] at hl ⊢;intro j hj;have h1:=hl j hj;have h2:=ae0 hA hT h j;omega
theorem ae2 {B:Bk} (hA:B.alarm=0) {T:Nat->Int} (hT: ∀k,0<=T k):aQ B T B.hours.toNat 0 1=1↔ ∀h,h<B.hours.toNat->B.lackIn T true h<0:=by
 rw[Og];exact⟨fun h k hk=>(h.2 k (Nat.zero_le _) (by omega)).2,fun h=>⟨rfl,fun k _ hk=>⟨ae1 hA hT k (h k (by omega)),h k (by omega)⟩⟩⟩
theorem aeR {l T:Nat->Int}: ∀n i,0<=fJ l T n i-> ∃r:Nat,fJ l T n i=(r:Int)/\i<=r/\r<i+n/\T r<l r/\ ∀j,i<=j->j<r->l j<=T j
 | 0,i,h=>by simp[fJ] at h
 |n+1,i,h=>by
  unfold fJ at h ⊢;by_cases h1:T i<l i
  ·rw[if_pos h1];exact⟨i,rfl,nR _,by omega,h1,fun j a b=>by omega⟩
  ·rw[if_neg h1] at h ⊢;obtain⟨r,e,a,b,c,d⟩:=aeR n (i+1) h;refine⟨r,e,by omega,by omega,c,fun j p q=> ?_⟩;by_cases e2:j=i
   ·subst e2;omega
   ·exact d j (by omega) q
theorem ae3 {B:Bk} {T:Nat->Int}: ∀n i,(iW B T n i= .tuple #[.int .i64 0,.int .i64 0,.int .i64 0,.int .i64 10]/\ ∀h,i<=h->h<i+n->B.lackIn T true h<0)\/ ∃h k:Nat,i<=h/\h<i+n/\k<B.spokes/\iW B T n i= .tuple #[.int .i64 (h:Int),.int .i64 (k:Int),.int .i64 (B.inn T true h k-T k),.int .i64 0]/\T k<B.inn T true h k/\(∀g,i<=g->g<h->B.lackIn T true g<0)/\ ∀j,j<k->B.inn T true h j<=T j
 | 0,i=> .inl ⟨rfl,fun h a b=>by omega⟩
 |n+1,i=>by
  unfold iW;by_cases h1:0<=B.lackIn T true i
  ·rw[if_pos h1];have h2:=h1;unfold Bk.lackIn Bk.lack at h2;obtain⟨r,e,_,b,c,d⟩:=aeR _ _ h2;have e2:B.lackIn T true i=(r:Int):=e;refine .inr ⟨i,r,nR _,by omega,by omega, ?_,c,fun g a b=>by omega,fun j hj=>d j (Nat.zero_le _) hj⟩;rw[e2,Int.toNat_natCast]
  ·rw[if_neg h1]
   rcases ae3 (B:=B) (T:=T) n (i+1) with ⟨e,h⟩ |⟨h,k,a,b,c,d,e,f,g⟩
   ·refine .inl ⟨e,fun h' a b=> ?_⟩;by_cases e2:h'=i
    ·subst e2;omega
    ·exact h h' (by omega) (by omega)
   ·refine .inr ⟨h,k,by omega,by omega,c,d,e,fun g' p q=> ?_,g⟩;by_cases e2:g'=i
    ·subst e2;omega
    ·exact f g' (by omega) q
theorem ae4 (B:Bk) (most:Bool) (h:Nat) {i:Nat} (hi:i<B.pairs.length):trk (aey B most h B.pairs.length) i=B.call most h i:=by
 unfold trk aey;rw[lD,List.getElem?_map,List.getElem?_range hi];rfl
theorem aeS {B:Bk} {T c d:Nat->Int} (h: ∀i,i<B.pairs.length->c i=d i) (k:Nat): ∀n,n<=B.pairs.length->adu B T c k n=adu B T d k n
 | 0,_=>rfl
 |n+1,hn=>by
  unfold adu;rw[aeS h k n (by omega),h n (by omega)]
theorem afq {B:Bk} (hA:B.alarm=0) (T:Nat->Int) (most:Bool) (h k:Nat):adu B T (trk (aey B most h B.pairs.length)) k B.pairs.length=B.inn T most h k:=by
 rw[aeE hA];exact aeS (fun i hi=>ae4 B most h hi) k _ (nR _)
def aeA (B:Bk) (ps:List Int) (h i:Nat):Int:=B.call false h i+jl ps (6+i) % (B.call true h i-B.call false h i+1)
def aew (B:Bk) (ps:List Int) (h n:Nat):List Int:=(List.range n).map (aeA B ps h)
theorem aeG (B:Bk) (ps:List Int) (h n:Nat):(aew B ps h n).length=n:=by simp[aew]
theorem ae5 (B:Bk) (ps:List Int) (h n:Nat):ints (aew B ps h (n+1))=ints (aew B ps h n)++ [.int .i64 (aeA B ps h n)]:=by
 unfold ints aew;rw[List.range_succ,List.map_append,List.map_append];rfl
theorem aeL {B:Bk} (hB:B.Fine) (ps:List Int) (h i:Nat):B.call false h i<=aeA B ps h i/\aeA B ps h i<=B.call true h i:=by
 have h1:=aeK hB h i;unfold aeA;generalize hd:B.call true h i-B.call false h i+1=d;have h2:=Int.emod_nonneg (jl ps (6+i)) (show d≠0 by omega);have h3:=Int.emod_lt_of_pos (jl ps (6+i)) (show 0<d by omega);omega
theorem aeM (B:Bk) (ps:List Int) (h:Nat) {i n:Nat} (hi:i<n):trk (aew B ps h n) i=aeA B ps h i:=by
 unfold trk aew;rw[lD,List.getElem?_map,List.getElem?_range hi];rfl
theorem aeN {B:Bk} (hB:B.Fine) (ps:List Int) (h n:Nat) (i:Nat):0<=trk (aew B ps h n) i/\trk (aew B ps h n) i<=5:=by
 by_cases hi:i<n
 ·rw[aeM B ps h hi];have h1:=aeL hB ps h i;have h2:=Gj B hB false h i;have h3:=Gj B hB true h i;omega
 ·unfold trk;rw[lD,List.getElem?_eq_none (by rw[aeG];omega)];simp
theorem aeT {B:Bk} (hA:B.alarm=0) (T:Nat->Int) (ps:List Int) (h k:Nat):B.load T (trk (aew B ps h B.pairs.length)) k=adu B T (trk (aew B ps h B.pairs.length)) k B.pairs.length:=
 (adW (gY hA).fine hA T _ (fun i _=>(aeN (gY hA).fine ps h _ i).1) k _ (nR _)).symm
theorem aeO {B:Bk} (hA:B.alarm=0) {T:Nat->Int} (hT: ∀k,0<=T k) (ps:List Int) (h k:Nat):B.inn T false h k<=adu B T (trk (aew B ps h B.pairs.length)) k B.pairs.length/\adu B T (trk (aew B ps h B.pairs.length)) k B.pairs.length<=B.inn T true h k:=by
 have hB:=(gY hA).fine;rw[aeE hA,aeE hA];refine⟨aeF hT (fun i hi=> ?_) k _ (nR _),aeF hT (fun i hi=> ?_) k _ (nR _)⟩
 ·rw[aeM B ps h hi];exact(aeL hB ps h i).1
 ·rw[aeM B ps h hi];exact(aeL hB ps h i).2
def carries (B:Bk) (T c:Nat->Int):Bool:=decide (B.lack (B.load T c) T<0)
theorem aeH {B:Bk} {T c:Nat->Int}:carries B T c=true↔ ∀j,j<B.spokes->B.load T c j<=T j:=by
 unfold carries Bk.lack;rw[decide_eq_true_iff,Oe];exact⟨fun hh j hj=>hh j (Nat.zero_le _) (by omega),fun hh j _ hj=>hh j (by omega)⟩
def aex (B:Bk) (T:Nat->Int) (ps:List Int):Nat->Bool
 | 0=>true
 |n+1=>aex B T ps n&&carries B T (trk (aew B ps n B.pairs.length))
theorem aeP {B:Bk} {T:Nat->Int} {ps:List Int}: ∀n,aex B T ps n=true↔ ∀h,h<n->carries B T (trk (aew B ps h B.pairs.length))=true
 | 0=>by simp[aex]
 |n+1=>by
  unfold aex;rw[Bool.and_eq_true,aeP n];refine⟨fun⟨h1,h2⟩ h hh=> ?_,fun h1=>⟨fun h hh=>h1 h (by omega),h1 n (by omega)⟩⟩;by_cases e:h=n
  ·subst e;exact h2
  ·exact h1 h (by omega)
theorem ae6 {B:Bk} (hA:B.alarm=0) {T:Nat->Int} (hT: ∀k,0<=T k) (ps:List Int):
  aQ B T B.hours.toNat 0 1=0\/(aQ B T B.hours.toNat 0 1=1/\aex B T ps B.hours.toNat=true)\/(aQ B T B.hours.toNat 0 1=2/\aex B T ps B.hours.toNat=false):=by
 rcases abV B T B.hours.toNat 0 1 (.inr rfl) with e |e |e
 ·exact .inl e
 ·refine .inr (.inl ⟨e,(aeP _).2 fun h hh=> ?_⟩);have h1:=(ae2 hA hT).1 e h hh;rw[vC] at h1;rw[aeH];intro j hj;rw[aeT hA];have:=h1 j hj;have:=(aeO hA hT ps h j).2;omega
 ·refine .inr (.inr ⟨e, ?_⟩);obtain⟨h,_,hh,h1⟩:=(abU B T _ _ _ (by decide)).1 e
  cases ha:aex B T ps B.hours.toNat with
  |false=>rfl
  |true=>
   exfalso;have h2:=(aeP _).1 ha h (by omega);rw[aeH] at h2;have h3:B.lackIn T false h<0:=by
    rw[vC];intro j hj;have h4:=h2 j hj;rw[aeT hA] at h4;have:=(aeO hA hT ps h j).1;omega
   omega
theorem c77 (x y n:Int) (w:World) (hx:0<=x/\x<=y/\y<=5) (hn:0<=n/\n<=65535):
  Calls tP 77 #[.agg #[.int .i64 x,.int .i64 y],.int .i64 n] w fun e w'=>e= .returned (.int .i64 (x+n % (y-x+1)))/\Below w.heap.size w w':=by
 have h2:=Int.emod_nonneg n (show y-x+1≠0 by omega);have h3:=Int.emod_lt_of_pos n (show 0<y-x+1 by omega);have hrem:Int.tmod n (y-x+1)=n % (y-x+1):=Int.tmod_eq_emod_of_nonneg hn.1;have hz:((y-x+1)==0)=false:=by rw[beq_eq_false_iff_ne];omega
 have hz': ¬(y-x+1=0):=by omega
 have w1:IntKind.wrap .i64 (y-x)=y-x:=IntWalk.i64_in _ (by omega);have w2:IntKind.wrap .i64 (y-x+1)=y-x+1:=IntWalk.i64_in _ (by omega);have w3:IntKind.wrap .i64 (n % (y-x+1))=n % (y-x+1):=IntWalk.i64_in _ (by omega);have w4:IntKind.wrap .i64 (x+n % (y-x+1))=x+n % (y-x+1):=IntWalk.i64_in _ (by omega);have HB:Hid (Below w.heap.size w (w.alloc (.cells #[.int .i64 x,.int .i64 y] 53))):=lH ((bR _ _).alloc (nR _) _);clear hx hn h2 h3;go_enter Tryd.func77,Tryd.ntmps77;go_wp2
 go_region
 go_wp2;go_ret;exact⟨rfl,HB.out.drew⟩
theorem c35 (c:Int) (is:Bool) (w:World) (hc:c=0\/c=1/\is=true\/c=2/\is=false):
  Calls tP 35 #[.int .i64 c,.bool is] w fun e w'=>e= .returned (.bool true)/\w=w':=by
 rcases hc with rfl |⟨rfl,rfl⟩ |⟨rfl,rfl⟩
 all_goals
  go_enter Tryd.func35,Tryd.ntmps35;go_wp2;go_ret;exact⟨rfl,rfl⟩
theorem own_below {w u:World} {base sz:Nat} {e:TypeId} {v:Value} {n:Nat} {xs:List Value} (h:w.ownsRow base e sz v n xs) (hb:Below w.heap.size w u):u.ownsRow base e sz v n xs:=by
 obtain⟨h1,h2⟩:=h;refine⟨h1,h2.imp id ?_⟩;rintro⟨g,cap,cur,e1,e2,e3,e4⟩;exact⟨g,cap,cur,e1,e2,(hb.block g (Array.getElem?_eq_some_iff.1 e3).1).trans e3,e4⟩
theorem ae7 (B:Bk) (ps:List Int) (h i:Nat):aeA B ps h i=B.call false h i+jl ps (6+i) % (B.call true h i-B.call false h i+1):=rfl
theorem c33 (V:BkV) (B:Bk) (h:Nat) (ps:List Int) (sa:Option Addr) (cap:Nat) (w:World) (hs:aB w V B) (hG:Good B) (hh:(h:Int)<B.hours) (hsl:SlH w sa ps) (hp: ∀x∈ps,0<=x/\x<=65535) (hl:ps.length<=maxLen):
  Calls tP 33 #[V.val B,.int .i64 (h:Int),.slice sa ps.length cap] w fun e w'=> ∃v,e= .returned v/\w'.ownsRow w.heap.size 3 1 v B.pairs.length (ints (aew B ps h B.pairs.length))/\Below w.heap.size w w':=by
 obtain⟨ta,la,pa,tc,lc,pc⟩:=V;have hnp:=hG.fine.pairs;have HC:Hid (∀k,k<B.pairs.length-> ∃b o sb so n sc lo up,pa=some ⟨b,o,none⟩/\(∀u,Below w.heap.size w u->u.cell? ⟨b,o+k*3+2,none⟩=some (.slice (some ⟨sb,so,none⟩) n sc)/\u.cell? ⟨sb,so+h*2,none⟩=some (.int .i64 lo)/\u.cell? ⟨sb,so+h*2+1,none⟩=some (.int .i64 up))/\h<n/\B.call false h k=lo/\B.call true h k=up):=lH fun k hk=>by
  have hx:B.pairs[k]? =some B.pairs[k]:=lG hk;obtain⟨b,o,sa,sc,e,_,_,h3,h4,_⟩:=hs.pairs k _ hx;have hc:=(hG.fine.calls k _ hx).1;have hlt:h<B.pairs[k].calls.length:=by omega
  have hy:B.pairs[k].calls[h]? =some B.pairs[k].calls[h]:=lG hlt;obtain⟨sb,so,e2,g0,g1⟩:=h4 h _ hy;subst e2;refine⟨b,o,sb,so,_,sc,_,_,e,fun u hu=>⟨cell_below hu h3 (nR _),cell_below hu g0 (nR _),cell_below hu g1 (nR _)⟩,hlt, ?_, ?_⟩
  all_goals
   unfold Bk.call;rw[hx];simp only[Option.bind_some,hy];rfl
 have HCb:Hid (∀k,0<=B.call false h k/\B.call false h k<=B.call true h k/\B.call true h k<=5):=lH fun k=>⟨(Gj B hG.fine false h k).1,aeK hG.fine h k,(Gj B hG.fine true h k).2⟩;have H76:Hid (∀k W,Below w.heap.size w W->Calls tP 76 #[.slice sa ps.length cap,.int .i64 ((k:Nat):Int)] W fun e w'=>e= .returned (.int .i64 (jl ps k))/\W=w'):=lH fun k W hW=>c76 ps sa cap k W (hsl.below hW (nR _)) hp hl;have HPb:=lH (ZF hp);clear hs hG hh hsl hp hl;obtain⟨i0,hi,hz0,hz1,hz2⟩:=info_parts info3;go_enter Tryd.func33,Tryd.ntmps33
 go_wp2_with fail
 generalize hWd:w.alloc (.cells #[.int .i64 B.hours,.slice ta B.towns.length tc,.slice la B.links.length lc,.slice pa B.pairs.length pc] 26)=W;have HBW:Hid (Below w.heap.size w W):=lH (by subst hWd;exact(bR _ _).alloc (nR _) _);have HW3:Hid (W.cell? ⟨w.heap.size,3,none⟩=some (.slice pa B.pairs.length pc)):=lH (by subst hWd;go_simp);clear hWd
 go_loopw [7,8] (fun v i wr=> ∃k:Nat,k<=B.pairs.length/\i= .int .i64 (k:Int)/\wr.ownsRow W.heap.size 3 1 v k (ints (aew B ps h k))/\Below W.heap.size W wr) (fun _ i _=>B.pairs.length-(intOf i).toNat)
 case atStart=>exact⟨0,Nat.zero_le _,rfl,World.ownsRow_nil _ _ _ _,bR _ _⟩
 case round=>
  obtain⟨k,hk,rfl,hown,hb⟩:=hrel;have Hown:=lH hown;have Hb:=lH hb;clear hown hb;have k3:=cell_below Hb.out HW3.out (nR _);by_cases hlt:k<B.pairs.length
  ·obtain⟨b,o,sb,so,n,sc,lo,up,e,hcs,hn,hlo,hup⟩:=HC.out k hlt;subst e;have hwr:=HBW.out.trans (Hb.out.mono HBW.out.size);obtain⟨c0,c1,c2⟩:=hcs wr hwr;have z0:=wBk _ _ c0;have z1:=wBk _ _ c1;have hhn:(h:Int)<(n:Int):=by omega
   have hbd:=HCb.out k;rw[hlo,hup] at hbd;have hpk:=HPb.out (6+k);have Hrd:=lH (ae7 B ps h k);have Hsn:=lH (ae5 B ps h k);rw[hlo,hup] at Hrd;have hkp:(k:Int)<(B.pairs.length:Int):=by omega
   have Hwr:=lH hwr;have hw6:IntKind.wrap .i64 (6+(k:Int))=6+(k:Int):=IntWalk.i64_in _ (by omega);have KS:Hid (∀u,Below wr.heap.size wr u->u.cell? ⟨w.heap.size,3,none⟩=some (.slice (some ⟨b,o,none⟩) B.pairs.length pc)/\u.cell? ⟨b,o+k*3+2,none⟩=some (.slice (some ⟨sb,so,none⟩) n sc)/\u.cell? ⟨sb,so+h*2,none⟩=some (.int .i64 lo)/\u.cell? ⟨sb,so+h*2+1,none⟩=some (.int .i64 up)):=lH fun u hu=>⟨cell_below hu k3 (nR _),cell_below hu c0 (nR _),cell_below hu c1 (nR _),cell_below hu c2 (nR _)⟩;have KWu:Hid (∀u,Below W.heap.size W u->u.cell? ⟨w.heap.size,3,none⟩=some (.slice (some ⟨b,o,none⟩) B.pairs.length pc)/\u.cell? ⟨b,o+k*3+2,none⟩=some (.slice (some ⟨sb,so,none⟩) n sc)/\u.cell? ⟨sb,so+h*2,none⟩=some (.int .i64 lo)/\u.cell? ⟨sb,so+h*2+1,none⟩=some (.int .i64 up)):=lH fun u hu=>⟨cell_below hu HW3.out (nR _),(hcs u (HBW.out.trans (hu.mono HBW.out.size)))⟩;have H76k:Hid (∀W,Below wr.heap.size wr W->Calls tP 76 #[.slice sa ps.length cap,.int .i64 (6+(k:Int))] W fun e w'=>e= .returned (.int .i64 (jl ps (6+k)))/\W=w'):=lH fun W hW=>by
    have:=H76.out (6+k) W (Hwr.out.trans (hW.mono Hwr.out.size));rwa [show ((6+k:Nat):Int)=6+(k:Int) by omega] at this
   generalize jl ps (6+k)=p at *;have H77:Hid (∀W,Below wr.heap.size wr W->Calls tP 77 #[.agg #[.int .i64 lo,.int .i64 up],.int .i64 p] W fun e w'=>e= .returned (.int .i64 (aeA B ps h k))/\Below wr.heap.size wr w'):=lH fun W hW=>(c77 lo up p W hbd hpk).mono fun e w' ⟨e1,hb⟩=>⟨by rw[e1,Hrd.out],hW.trans (hb.mono hW.size)⟩;clear hcs hlo hup hwr;generalize aeA B ps h k=y at *;have Hst:=lH ((bR wr.heap.size wr).drew);have HOa:Hid (∀u,Below wr.heap.size wr u->u.ownsRow W.heap.size 3 1 u7 k (ints (aew B ps h k))/\W.heap.size<=u.heap.size/\Below W.heap.size W u):=lH fun u hu=>⟨own_below Hown.out hu,Nat.le_trans Hb.out.size hu.size,Hb.out.trans (hu.mono Hb.out.size)⟩;have HN:Hid (∀(u:World) (j:Nat) (x:Value),([.int .i64 y]:List Value)[j]? =some x->(u.alloc (.cells #[.int .i64 y] 3)).cell? ((⟨u.heap.size,0,none⟩:Addr).add j)=some x):=lH fun u j x hj=>by
    match j,hj with
    | 0,hj=>cases hj;simp only[Addr.add];go_simp
   have H1c:Hid (∀x∈([.int .i64 y]:List Value),x.oneCell'=true):=lH (by simp[Value.oneCell']);have Hb63:Hid (k+1<=maxLen):=lH (by unfold maxLen;omega);have Hbb:Hid ((k+1)*8<=140737488355328):=lH (by omega);have HAl:Hid (∀(u:World) (o:Obj),Below wr.heap.size wr u->Below wr.heap.size wr (u.alloc o)):=lH fun u o hu=>hu.alloc hu.size o;have HGr:Hid (∀(u u':World) (r:Option Nat),Below W.heap.size W u->u.grownBy u' r->(∀j,r=some j->W.heap.size<=j)->Below W.heap.size W u'):=lH fun u u' r h g hj=>h.grown g h.size hj;have HAO:Hid (∀(u:World) (o:Obj),Below wr.heap.size wr u->(u.alloc o).ownsRow W.heap.size 3 1 u7 k (ints (aew B ps h k))/\W.heap.size<=(u.alloc o).heap.size/\Below W.heap.size W (u.alloc o)):=lH fun u o hu=>HOa.out _ (HAl.out u o hu)
   go_wp2_with fail
   go_region_held3 (fun u=>u.cell? ⟨w.heap.size,3,none⟩=some (.slice (some ⟨b,o,none⟩) B.pairs.length pc)/\u.cell? ⟨b,o+k*3+2,none⟩=some (.slice (some ⟨sb,so,none⟩) n sc)/\u.cell? ⟨sb,so+h*2,none⟩=some (.int .i64 lo)/\u.cell? ⟨sb,so+h*2+1,none⟩=some (.int .i64 up))
    (first
     |exact KS.out _ Hst.out
     | (with_reducible exact KS.out _ (by assumption))
     | (with_reducible exact KS.out _ (HAl.out _ _ (by assumption)))
     | (with_reducible exact KWu.out _ (by assumption)))
    (first
     | (go_simp;go_at_call 76;go_split_ands;refine(H76k.out _ Hst.out).mono ?_;rintro e w1 ⟨rfl,rfl⟩)
     | (go_simp;go_at_call 77;go_split_ands;refine(H77.out _ Hst.out).mono ?_;rintro e w1 ⟨rfl,hbel⟩)
     | (have a1:=HAO.out w1 (Obj.cells #[Value.int .i64 y] 3) hbel;have a2:=HN.out w1;refine step_append_lies _ (by rfl) _ _ 27 (by rfl) W.heap.size 3 i0 (.int .i64 0) 1 8 Tryd.underlying27 hi hz0 hz1 hz2 (by rfl) (by decide) u7 k (ints (aew B ps h k)) (by rfl) a1.1 ⟨w1.heap.size,0,none⟩ 1 1 [.int .i64 y] (by rfl) (by rfl) a2 H1c.out (by decide) Hb63.out Hbb.out a1.2.1 _ rfl ?_;intro g2 cap2 w3 hown2 hgrow hat hltt;have hb3:=HGr.out _ _ _ a1.2.2 hgrow (fun j hj=>(a1.1.lt j hj).1)))
   have R:Hid (w3.ownsRow W.heap.size 3 1 (.slice (some ⟨g2,0,none⟩) (k+1) cap2) (k+1) (ints (aew B ps h (k+1)))/\Below W.heap.size W w3):=lH ⟨by rw[Hsn.out];exact hown2,hb3⟩;clear hown2 hgrow hat hltt hb3 KS KWu;go_wp2;go_roundw
   case rel=>exact⟨k+1,by omega,by go_num,R.out.1,R.out.2⟩
   case measure=>simp[intOf];omega
  ·have hke:k=B.pairs.length:=by omega
   rw[hke] at Hown;have Hbk:=lH (HBW.out.trans (Hb.out.mono HBW.out.size));clear hke;go_wp2;go_ret;exact⟨_,rfl,Hown.out.base HBW.out.size,Hbk.out⟩
theorem ae8 {B:Bk} (hA:B.alarm=0) {T c:Nat->Int} (hc: ∀i,0<=c i) (h: ∀j,j<B.spokes->adu B T c j B.pairs.length<=T j):carries B T c=true:=by
 rw[aeH];intro j hj;unfold Bk.load;rw[<-adW (gY hA).fine hA T c (fun i _=>hc i) j _ (nR _)];exact h j hj
theorem ae9 {B:Bk} (hA:B.alarm=0) {T c:Nat->Int} (hc: ∀i,0<=c i) {j:Nat} (hj:j<B.spokes) (h:T j<adu B T c j B.pairs.length):carries B T c=false:=by
 cases e:carries B T c with
 |false=>rfl
 |true=>
  rw[aeH] at e;have:=e j hj;unfold Bk.load at this;rw[<-adW (gY hA).fine hA T c (fun i _=>hc i) j _ (nR _)] at this;omega
theorem c32 (V:BkV) (B:Bk) (xs cs:List Int) (xa ca:Option Addr) (xc cc:Nat) (w:World) (hs:aB w V B) (hA:B.alarm=0) (hx:SlI w xa xs) (hxl:xs.length=B.links.length) (hc:SlI w ca cs) (hcl:cs.length=B.pairs.length) (hxb: ∀j,0<=trk xs j/\trk xs j<=1000) (hcb: ∀j,0<=trk cs j/\trk cs j<=1000):
  Calls tP 32 #[V.val B,.slice xa B.links.length xc,.slice ca B.pairs.length cc] w fun e w'=>e= .returned (.bool (carries B (trk xs) (trk cs)))/\Below w.heap.size w w':=by
 have H34:Hid (∀(k:Nat) (u:World),Below w.heap.size w u->Calls tP 34 #[.agg #[.int .i64 B.hours,.slice V.ta B.towns.length V.tc,.slice V.la B.links.length V.lc,.slice V.pa B.pairs.length V.pc],.slice xa B.links.length xc,.slice ca B.pairs.length cc,.int .i64 (k:Int)] u fun e w'=>e= .returned (.int .i64 (adu B (trk xs) (trk cs) k B.pairs.length))/\Below u.heap.size u w'):=lH fun k u hu=>(c34 V B xs cs xa ca xc cc k u (hs.below hu (nR _)) hA (hx.below hu (nR _)) hxl (hc.below hu (nR _)) hcl hxb hcb).mono fun e w' ⟨e1,hb⟩=>⟨e1,hb⟩;have HYes:=lH (ae8 hA (T:=trk xs) (fun i=>(hcb i).1));have HNo:Hid (∀j,j<B.spokes->trk xs j<adu B (trk xs) (trk cs) j B.pairs.length->carries B (trk xs) (trk cs)=false):=lH fun j h1 h2=>ae9 hA (fun i=>(hcb i).1) h1 h2;have HLb:Hid (∀k,_):=lH fun k=>aeJ (B:=B) (fun k=>(hxb k).1) hcb k B.pairs.length;have hB:=(gY hA).fine;have hll:=hB.links;have htt:=hB.towns;have hnp:=hB.pairs;unfold Bk.spokes at hll HYes HNo;have HX:Hid (∀k,k<B.towns.length-1-> ∃b o,xa=some ⟨b,o,none⟩/\ ∀u,Below w.heap.size w u->u.cell? ⟨b,o+k,none⟩=some (.int .i64 (trk xs k))):=lH fun k hk=>by
  have e:xs[k]? =some (trk xs k):=by
   rw[lG (show k<xs.length by omega)];unfold trk;rw[lD,lG (show k<xs.length by omega)];rfl
  obtain⟨b,o,e,h0⟩:=hx k _ e;exact⟨b,o,e,fun u hu=>cell_below hu h0 (nR _)⟩
 have HXb:=lH hxb;clear hs hx hc hxb hcb hA hB;obtain⟨ta,la,pa,tc,lc,pc⟩:=V;generalize carries B (trk xs) (trk cs)=res at *;generalize hD:(fun k=>adu B (trk xs) (trk cs) k B.pairs.length)=D at *;have hD': ∀k,adu B (trk xs) (trk cs) k B.pairs.length=D k:=fun k=>by rw[<-hD]
 simp only[hD'] at *;clear hD hD';generalize trk xs=T at *;simp only[BkV.val] at *;go_enter Tryd.func32,Tryd.ntmps32
 go_wp2_with fail
 generalize hWd:w.alloc (.cells #[.int .i64 B.hours,.slice ta B.towns.length tc,.slice la B.links.length lc,.slice pa B.pairs.length pc] 26)=W;have HBW:Hid (Below w.heap.size w W):=lH (by subst hWd;exact(bR _ _).alloc (nR _) _);have HW:Hid (W.cell? ⟨w.heap.size,0,none⟩=some (.int .i64 B.hours)/\W.cell? ⟨w.heap.size,1,none⟩=some (.slice ta B.towns.length tc)/\W.cell? ⟨w.heap.size,2,none⟩=some (.slice la B.links.length lc)/\W.cell? ⟨w.heap.size,3,none⟩=some (.slice pa B.pairs.length pc)):=lH (by subst hWd;exact⟨by go_simp,by go_simp,by go_simp,by go_simp⟩);clear hWd
 go_loopw [7] (fun i wr=> ∃k:Nat,k<=B.towns.length-1/\i= .int .i64 (k:Int)/\(∀j,j<k->D j<=T j)/\Below W.heap.size W wr) (fun i _=>B.towns.length-1-(intOf i).toNat)
 case atStart=>exact⟨0,Nat.zero_le _,rfl,fun j h=>by omega,bR _ _⟩
 case round=>
  obtain⟨k,hk,rfl,hd,hb⟩:=hrel;have Hd:=lH hd;have Hb:=lH hb;clear hd hb;have hwt:IntKind.wrap .i64 ((B.towns.length:Int)-1)=((B.towns.length-1 :Nat):Int):=by rw[IntWalk.i64_in _ (by omega)];omega
  obtain⟨k0,k1,k2,k3⟩:=HW.out;have KS:Hid (∀u,Below W.heap.size W u->u.cell? ⟨w.heap.size,0,none⟩=some (.int .i64 B.hours)/\u.cell? ⟨w.heap.size,1,none⟩=some (.slice ta B.towns.length tc)/\u.cell? ⟨w.heap.size,2,none⟩=some (.slice la B.links.length lc)/\u.cell? ⟨w.heap.size,3,none⟩=some (.slice pa B.pairs.length pc)):=lH fun u hu=>⟨cell_below hu k0 (nR _),cell_below hu k1 (nR _),cell_below hu k2 (nR _),cell_below hu k3 (nR _)⟩;clear k0 k1 k2 k3;obtain⟨k0,k1,k2,k3⟩:=KS.out _ Hb.out;generalize hsp:B.towns.length-1=sp at *;by_cases hlt:k<sp
  ·obtain⟨xb,xo,e,hxc⟩:=HX.out k (by omega);subst e;have hxw:=hxc wr (HBW.out.trans (Hb.out.mono HBW.out.size));have z0:=wBk _ _ k0;have z1:=wBk _ _ hxw;have hlt':(k:Int)<(sp:Int):=by omega
   have hkx:(k:Int)<(B.links.length:Int):=by omega
   have KXu:Hid (∀u,Below W.heap.size W u->u.cell? ⟨w.heap.size,0,none⟩=some (.int .i64 B.hours)/\u.cell? ⟨w.heap.size,1,none⟩=some (.slice ta B.towns.length tc)/\u.cell? ⟨w.heap.size,2,none⟩=some (.slice la B.links.length lc)/\u.cell? ⟨w.heap.size,3,none⟩=some (.slice pa B.pairs.length pc)/\u.cell? ⟨xb,xo+k,none⟩=some (.int .i64 (T k))):=lH fun u hu=>by
    obtain⟨a0,a1,a2,a3⟩:=KS.out u hu;exact⟨a0,a1,a2,a3,hxc u (HBW.out.trans (hu.mono HBW.out.size))⟩
   have H34k:Hid (∀u,Below W.heap.size W u->Calls tP 34 #[.agg #[.int .i64 B.hours,.slice ta B.towns.length tc,.slice la B.links.length lc,.slice pa B.pairs.length pc],.slice (some ⟨xb,xo,none⟩) B.links.length xc,.slice ca B.pairs.length cc,.int .i64 (k:Int)] u fun e w'=>e= .returned (.int .i64 (D k))/\Below W.heap.size W w'):=lH fun u hu=>(H34.out k u (HBW.out.trans (hu.mono HBW.out.size))).mono fun e w' ⟨e1,hb⟩=>⟨e1,hu.trans (hb.mono hu.size)⟩;have Hst:=lH Hb.out.drew;have hDk:=HLb.out k;have hTk:=HXb.out k;have HNk:=lH (HNo.out k (by omega));clear hxc KS
   go_wp2_with fail
   go_region_held3 (fun u=>u.cell? ⟨w.heap.size,0,none⟩=some (.int .i64 B.hours)/\u.cell? ⟨w.heap.size,1,none⟩=some (.slice ta B.towns.length tc)/\u.cell? ⟨w.heap.size,2,none⟩=some (.slice la B.links.length lc)/\u.cell? ⟨w.heap.size,3,none⟩=some (.slice pa B.pairs.length pc)/\u.cell? ⟨xb,xo+k,none⟩=some (.int .i64 (T k)))
    (first
     |exact KXu.out _ Hst.out
     | (with_reducible exact KXu.out _ (by assumption)))
    (first
     | (go_simp;go_at_call 34;go_split_ands;refine(H34k.out _ Hst.out).mono ?_;rintro e w1 ⟨rfl,hbel⟩)
     |fail)
   have HF:=lH hbel;clear hbel KXu;by_cases hgt:T k<D k
   ·have Hfin:Hid (res=false/\Below w.heap.size w w1):=lH ⟨HNk.out hgt,HBW.out.trans (HF.out.mono HBW.out.size)⟩;clear HNk;go_wp2;go_ret;exact⟨by rw[Hfin.out.1]<;>rfl,Hfin.out.2⟩
   ·have HR:Hid (k+1<=sp/\ ∀j,j<k+1->D j<=T j):=lH ⟨by omega,fun j hj=>by
     by_cases e:j=k
     ·subst e;omega
     ·exact Hd.out j (by omega)⟩
    clear HNk;go_wp2;go_roundw
    case rel=>exact⟨k+1,HR.out.1,by go_num,HR.out.2,HF.out⟩
    case measure=>simp[intOf];omega
  ·have hke:k=sp:=by omega
   have Hfin:Hid (res=true/\Below w.heap.size w wr):=lH ⟨HYes.out fun j hj=>Hd.out j (by omega),HBW.out.trans (Hb.out.mono HBW.out.size)⟩;have hlt': ¬(k:Int)<(sp:Int):=by omega
   go_wp2;go_ret;exact⟨by rw[Hfin.out.1]<;>rfl,Hfin.out.2⟩
end Go.Proofs.YtaikibfkggglgaaDoor
