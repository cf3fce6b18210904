/- Part 11 of the proof: 9 texts, one behind the other. -/
import Derived.Test.YtmckdnddocfodaaGreatDoorRows
import Derived.MakeChecks
import Derived.Stop.LaidErr
import Derived.Test.YtmckdnddocfodaaGreatDoorCards
import Derived.Test.YtmckdnddocfodaaGreatDoorTie
import Derived.LaidMore
import Derived.Lay
import Derived.SevenTiedAt
import Derived.Stop.Joined
import Derived.Test.YtmckdnddocfodaaGreatDoorM10
open _root_.Go.Proofs.Tryz
set_option maxRecDepth 100000
set_option maxHeartbeats 8000000
set_option linter.all false
set_option linter.unusedVariables false
set_option linter.unusedSimpArgs false
namespace Go.Proofs.YtmckdnddocfodaaGreatDoor
theorem AJ{p:Prop}(h:p:=by refine go ?_;intros;refine ret (⟨[ab none 0 0,aa 0,aa 0,ab none 0 0,aa 0,aa 0,ab none 0 0,ab none 0 0,ab none 0 0,ab none 0 0,ab none 0 0],_,none,0,[]⟩:Wx) trivial rfl):p:=h
theorem BM{p:Prop}(h:p:=by refine ret (⟨[ab none 0 0,aa 0,aa 0,ab none 0 0,aa 0,aa 0,ab none 0 0,ab none 0 0,ab none 0 0,ab none 0 0,ab none 0 0],_,_,_,_⟩:Wx) trivial rfl):p:=h
end Go.Proofs.YtmckdnddocfodaaGreatDoor
namespace Go.Proofs.YtmckdnddocfodaaGreatDoor
open Go.RowKit
theorem Aso (t:Oc) (v:Value) (F:ak) (hl:t.Ad.length<=1000000):Fn prog 42 [v] [.isv Tn v t F] [] (fun (_:KiS)=>True) (fun z=>.slice z.a (lvs t.Ad).length z.c) (fun z=>[.ow Bi 3 (.slice z.a (lvs t.Ad).length z.c) (lvs t.Ad) z.F]):=by
 refine enter func42 rfl ntmps42 fun w0=>?_;refine Pa ?_;rintro a1 c1 F1 rfl l1;refine B4 Bi 3 ?_;refine go ?_;intros;refine Cu [1,2,7] (fun z:KiS=>[(3,.slice z.a (Pn t.Ad z.k).length z.c),(8,aa (z.k:Nat))]) (fun z=>[.ow Bi 3 (.slice z.a (Pn t.Ad z.k).length z.c) (Pn t.Ad z.k) z.F]) (fun z=>z.k<=t.Ad.length) (fun z=>t.Ad.length - z.k) ⟨0,_,_,_⟩ (aD _) fun z hz=>?_;have hkl:=Af9 t.Ad z.k;refine go ?_;refine Bf rfl (fun h1=>?_) (fun h1=>?_)
 ·have hh:z.k < t.Ad.length:=EM
  refine go ?_;refine Bw (Zb t z.k _ F) fun _ _=>?_;cases g:Br t.Ad (z.k:Nat)
  ·rw [<-Asq g];exact DF
  ·refine Ke ?_;intros;apply wO;refine No (N7 _) Dw fun a9 c9 F9=>?_;refine go ?_;rw [<-App g];exact EF
 ·have hk:z.k=t.Ad.length:=EM
  rw [show Pn t.Ad z.k=lvs t.Ad by unfold lvs;rw [hk]];exact CK
theorem Ak0 (n:Du) (v:Value) (F:ak):FV 14 [v] [.isv Nw v n F] (.tuple #[.bool (Nf n).1,.bool (Nf n).2]):=by
 refine enter func14 rfl ntmps14 fun w0=>?_;refine Eb ?_;rintro a1 c1 F1 a2 c2 F2 a3 c3 F3 a4 c4 F4 a5 c5 F5 a6 c6 F6 a7 c7 F7 rfl l1 l2 l3 l4 l5 l6 l7;refine go ?_;intros;refine Bw (Uk n _ F) fun _ _=>?_;cases g:At n
 ·refine go ?_;refine ret () trivial ?_;unfold Nf;rw [g];rfl
 obtain ⟨-, -,e3,e4⟩:=Mk g;obtain ⟨q2,q8,qn,qu,qe,qt⟩:=Afv g;have hG:=Av.1 g;obtain ⟨-,qr, -, -⟩:=Bk.1 hG.l;have hS:=M4 hG.s;have hW:=D0.1 (Dd.1 hG.s).1;have hS1:=hS.l;have hb1:=Zj (fun q hq=>(Ga (e3 q hq)).1) n.down.length;have hb2:=Zj (fun q hq=>(Ga (e4 q hq)).1) n.up.length;rw [bG] at hb1 hb2;refine Ke ?_;intros;refine Mn n.Ao (a1:=a1) ?_;refine go ?_;refine Bw (Aso n.Ao _ _ EM) fun z _=>?_;refine Az (E:=Bi) (xs:=lvs n.Ao.Ad) fun Fl=>?_;have hlv:=Af9 n.Ao.Ad n.Ao.Ad.length;rw [show Pn n.Ao.Ad n.Ao.Ad.length=lvs n.Ao.Ad from rfl] at hlv;refine go ?_
 refine Ei [1,2,3,12,13] (fun k:Nat=>[(14,aa (k:Nat))]) (fun k=>k<=(lvs n.Ao.Ad).length/\∀x∈(lvs n.Ao.Ad).take k,Aja n x.toNat=true) (fun k=>(lvs n.Ao.Ad).length - k) 0 ⟨aD _,EO⟩ fun k hk=>?_;obtain ⟨hk,hal⟩:=hk;refine go ?_;refine Bf rfl (fun h3=>?_) (fun h3=>?_)
 ·have hk3:k < (lvs n.Ao.Ad).length:=EM
  obtain ⟨i,hi8,hie,hlf⟩:=Ay3 hk3;have h5:i < n.Ah.length:=EM
  refine Jg (xs:=lvs n.Ao.Ad) k ?_;rintro hi b o e;rw [e,hie];refine Od (xs:=n.Ah) i ?_;rintro h5b b5 o5 a9 c9 F9 a10 c10 F10 e5 l9 l10;rw [e5];refine E8 n.Ah[i] ?_;cases hs:Ah3 n.Ah[i]
  ·refine Ke ?_;intros;refine As [0,8] [] ?_;refine dt 0 ?_;refine dN 1 ?_;refine oC ?_;refine Bw (Abk n.Ah[i] _ _) fun _ _=>?_;rw [hs];refine dk ?_;refine Ek 2 3 ?_;refine ds 4 ?_;refine ds 5 ?_;refine ds 6 ?_;refine ds 7 ?_;refine ds 8 ?_;refine ds 9 ?_;refine ds 10 ?_;refine ds 11 ?_;refine dt 12 ?_;refine dd ?_;refine go ?_;refine ret () trivial ?_;unfold Nf;rw [g];rw [ar rfl,At7 hi8 hlf (by unfold Aja;rw [Iq h5,hs];rfl)];rfl
  ·refine Ke ?_;intros;refine As [0,8] [] ?_;refine dt 0 ?_;refine dN 1 ?_;refine oC ?_;refine Bw (Abk n.Ah[i] _ _) fun _ _=>?_;rw [hs];refine dk ?_;refine Ek 2 3 ?_;refine E6 4 ?_;refine E6 5 ?_;refine E6 6 ?_;refine E6 7 ?_;refine E6 8 ?_;refine E6 9 ?_;refine d1g 10 ?_;apply On.h;refine oC ?_;refine cb (fun w s=>Hz n.Ac.Aa.Al n.Ac.Aa.size _ n.Ac.Aa.An.length _ w hW.1.1 hW.1.2 EM) ?_;refine dk ?_;refine E6 11 ?_;refine dt 12 ?_;refine dd ?_;refine go ?_;refine Bf rfl (fun h6=>?_) (fun h6=>?_)
   ·refine go ?_;refine ret () trivial ?_;unfold Nf;rw [g];rw [ar rfl,At7 hi8 hlf (by unfold Aja;rw [Iq h5,hs,ay h6];rfl)];rfl
   ·refine go ?_;rw [show ((k:Nat):Int)+1=((k+1:Nat):Int) by omega];refine Cv (k+1) ⟨hk3,fun x hx=>?_⟩ EM;rw [aZ hk3] at hx;rcases aG.1 hx with hx|hx
    ·exact hal x hx
    ·rw [aH.1 hx,hie];show Aja n i=true;unfold Aja;rw [Iq h5,hs,au (d9.1 h6)];rfl
 ·refine Ke ?_;intros;refine As [2] [] ?_;refine D7 0 1 3 4 ?_;refine dN 2 ?_;refine oC ?_;refine Bw (Zk n.down _ _ _ EM fun q hq=>(Ga (e3 q hq)).1) fun _ _=>?_;refine dk ?_;refine dN 5 ?_;refine oC ?_;refine Bw (Zk n.up _ _ _ EM fun q hq=>(Ga (e4 q hq)).1) fun _ _=>?_;refine dk ?_;refine D7 6 7 8 9 ?_;refine dd ?_;have hst:Ab5 n=decide (((qd n.down:Nat):Int)+((qd n.up:Nat):Int)=0):=by
   by_cases h0:Wp n=0
   ·rw [Akg h0 fun j hj hl=>hal ((j:Nat):Int) (by rw [bc EM];exact Asr hj hl)];exact (au (by unfold Wp at h0;omega)).symm
   ·rw [Azv h0];exact (ay (by unfold Wp at h0;omega)).symm
  rw [<-hst];refine go ?_;refine ret () trivial ?_;unfold Nf;rw [g];rfl
end Go.Proofs.YtmckdnddocfodaaGreatDoor
namespace Go.Proofs.YtmckdnddocfodaaGreatDoor

open Go.RowKit
end Go.Proofs.YtmckdnddocfodaaGreatDoor
namespace Go.Proofs.YtmckdnddocfodaaGreatDoor
open Go.RowKit
structure DqS where
 x:NE
 b:Bool
 cs:aj
 F:ak
 a:ai
 c:Nat
 Fe:ak
structure DqK where
 k:Nat
 cs:aj
 F:ak
 a:ai
 c:Nat
 Fe:ak
theorem Afp (w:World):∀xs:al,C6 Bi w (xs.map (Value.int .i64)) xs []
 | []=>⟨rfl,rfl⟩
 | x::r=>⟨[.int .i64 x],r.map (Value.int .i64),[],[],rfl,rfl,⟨rfl,rfl⟩,Afp w r⟩
theorem Atp {n:Du} {s:Gf} (e:Bm n s=none):Bo n s=(L4,[],false):=by
 unfold Bo
 split
 ·rw [e]
 ·rfl
theorem Aj7 {n:Du} {s:Gf} {r:NE} (g1:At n=true) (g2:D5 s=true) (e:Bm n s=some r):Bo n s=(r.1,r.2,true):=by unfold Bo;rw [g1,g2,e];rfl
theorem Adq (n:Du) (v:Value) (F FT:ak) (hg:At n=true):Fn prog 25 [v] [.isv Nw v n F,Nx FT] [] (fun (_:Wx)=>True) (fun z=>.tuple #[.agg z.cs.toArray,.slice z.a (Jk n).2.length z.c]) (fun z=>[.isv Nw (.agg z.cs.toArray) (Jk n).1 z.F,.ow Bc 9 (.slice z.a (Jk n).2.length z.c) (Jk n).2 z.Fe]):=by
 have hwn:=Aur hg;refine enter func25 rfl ntmps25 fun w0=>?_;refine Eb ?_;rintro a1 c1 F1 a2 c2 F2 a3 c3 F3 a4 c4 F4 a5 c5 F5 a6 c6 F6 a7 c7 F7 rfl l1 l2 l3 l4 l5 l6 l7;refine go ?_;intros;refine Bw (Ajj n _ F hg) fun z _=>?_;obtain ⟨w,y⟩:=z;dsimp only;refine Az (E:=Bi) (xs:=n.Ao.Ad) fun Ft=>?_;refine Acq Kw (xs:=n.Ai) fun He=>?_;refine Acq Tj (xs:=n.Ah) fun Hr=>?_;refine Acq (So (Ny.refl Ap) EN _) (xs:=n.down) fun Hd=>?_;refine Acq (So (Ny.refl Ap) EN _) (xs:=n.up) fun Hu=>?_;refine Gh (x:=n.Ac) ?_;rintro b2 d2 G2 b3 d3 G3 ev - -
 simp only [Value.agg.injEq,Array.mk.injEq,List.cons.injEq,Value.slice.injEq,cP,de] at ev;obtain ⟨⟨rfl,rfl⟩,rfl,rfl⟩:=ev;refine I6 n (a1:=w.a1) (c1:=w.c1) (a2:=w.s.a) (c2:=w.s.c) (a3:=w.s.a2) (c3:=w.s.c2) (a4:=y.a4) (c4:=y.c4) (a5:=y.a5) (c5:=y.c5) (a6:=y.a6) (c6:=y.c6) (a7:=y.a7) (c7:=y.c7) ?_;refine go ?_;intros;rename_i g4 g5;refine Dk Bc ?_;refine go ?_
 refine Cu [2,4] (fun s:DqS=>[(5,ab s.a s.x.2.length s.c),(6,.bool s.b)]) (fun s=>[.row g4 37 0 [] s.cs [],.isv Nw (.agg s.cs.toArray) s.x.1 s.F,.ow Bc 9 (ab s.a s.x.2.length s.c) s.x.2 s.Fe]) (fun s=>Uj (n,[]) s.x/\(if s.b then drE s.x else s.x)=Jk n) (fun s=>if s.b then wN s.x.1+1 else 0) ⟨(n,[]),true,_,_,_,_,_⟩ ⟨.refl hg,rfl⟩ fun s hs0=>?_;obtain ⟨x,b,cs,Fx,ea,ec,eF⟩:=s;obtain ⟨fx,hR⟩:=hs0;dsimp only at fx hR ⊢;refine Eb (x:=x.1) ?_;rintro b1 d1 G1 b2 d2 G2 b3 d3 G3 b4 d4 G4 b5 d5 G5 b6 d6 G6 b7 d7 G7 ev - - - - - - -;obtain rfl:=Oe ev;clear ev;cases b
 ·rw [aq EN] at hR;rw [hR];refine go ?_;refine ret (⟨_,Fx,ea,ec,eF⟩:Wx) trivial rfl
 rw [ar rfl] at hR;have hG:=Av.1 fx.g;have h8:=Ev hG.t;have hn8:=h8.n1;have hn2:=h8.n0;have hev:=fx.e;simp only [aV] at hev;refine go ?_;refine Cu [2,4] (fun s:DqK=>[(5,.slice s.a (Dy x s.k).2.length s.c),(6,.bool (Pu x s.k)),(7,aa ((s.k+1:Nat):Int))]) (fun s=>[.row g4 37 0 [] s.cs [],.isv Nw (.agg s.cs.toArray) (Dy x s.k).1 s.F,.ow Bc 9 (.slice s.a (Dy x s.k).2.length s.c) (Dy x s.k).2 s.Fe]) (fun s=>s.k+1<=x.1.Ao.Ad.length) (fun s=>x.1.Ao.Ad.length - s.k) ⟨0,_,_,_,_,_⟩ (by show 0+1<=_;omega) fun s hs0=>?_;obtain ⟨k,cs,Fx,ya,yc,yF⟩:=s;dsimp only at hs0 ⊢
 have rf:=K9 fx.g k hs0;have fX:=fx.trans rf.1;have hXt:(Dy x k).1.Ao.Ad.length=x.1.Ao.Ad.length:=by rw [rf.1.t]
 generalize hX:Dy x k=X at fX hXt ⊢;generalize hM:Pu x k=M;refine Eb (x:=X.1) ?_;rintro b1 d1 G1 b2 d2 G2 b3 d3 G3 b4 d4 G4 b5 d5 G5 b6 d6 G6 b7 d7 G7 ev - - - - - - -;obtain rfl:=Oe ev;clear ev;refine go ?_;refine Bf rfl (fun h1=>?_) (fun h1=>?_)
 rotate_left
 ·have hk:x.1.Ao.Ad.length - 1=k:=EM
  have hXr:Q1 x=X:=by rw [<-hX,<-hk];rfl
  have hmi:=Ad0 fx.g;rw [hk,hM] at hmi;refine go ?_;refine Cv ⟨X,M,_,_,ya,yc,yF⟩ ⟨fX,?_⟩ ?_
  ·cases M
   ·have hz:=hmi.1 rfl;show X=Jk n;rw [<-hR,Yu hz,<-hXr,Al2 fx.g hz]
   ·have hz:¬Wp x.1=0:=fun h=>by cases hmi.2 h
    show drE X=Jk n;rw [<-hR,Ac9 fx.g hz,hXr]
  ·cases M
   ·show 0 < wN x.1+1;omega
   ·have hz:¬Wp x.1=0:=fun h=>by cases hmi.2 h
    have:=(L8 fx.g).2 hz;rw [hXr] at this;show wN X.1+1 < wN x.1+1;omega
 have hj:k+1 < x.1.Ao.Ad.length:=EM
 refine go ?_;intros;refine Eo (E:=Bi) (xs:=[2,5]) (fun w=>Afp w _) ?_ EN;refine Az (E:=Bi) (xs:=[2,5]) fun Fk=>?_;refine go ?_;refine Cu [2,4,7,25,26] (fun s:DqK=>[(5,.slice s.a (Sa X (k+1) s.k).2.length s.c),(6,.bool (Abj M X (k+1) s.k)),(27,aa (s.k:Nat))]) (fun s=>[.row g4 37 0 [] s.cs [],.isv Nw (.agg s.cs.toArray) (Sa X (k+1) s.k).1 s.F,.ow Bc 9 (.slice s.a (Sa X (k+1) s.k).2.length s.c) (Sa X (k+1) s.k).2 s.Fe]) (fun s=>s.k<=2) (fun s=>2 - s.k) ⟨0,_,_,_,_,_⟩ (aD _) fun s hs1=>?_;obtain ⟨m,cs,Fx,ya,yc,yF⟩:=s;dsimp only at hs1 ⊢
 have fY:=fX.trans (Aow fX.g (i:=k+1) EM EM m hs1);have hYe:=fY.e;simp only [aV] at hYe;generalize hY:Sa X (k+1) m=Y at fY hYe ⊢;generalize hB:Abj M X (k+1) m=B;refine Eb (x:=Y.1) ?_;rintro b1 d1 G1 b2 d2 G2 b3 d3 G3 b4 d4 G4 b5 d5 G5 b6 d6 G6 b7 d7 G7 ev - - - - - - -;obtain rfl:=Oe ev;clear ev;refine go ?_;refine Bf rfl (fun h2=>?_) (fun h2=>?_)
 ·have hm:m < 2:=EM
  have ok:D5 (kst m (k+1))=true:=Bb8 EM EM hm;refine Jg (xs:=[2,5]) m ?_;rintro hi b9 o9 e9;rw [e9,show ([2,5]:al)[m]=(kst m (k+1)).Bd by rcases (show m=0\/m=1 by omega) with rfl|rfl <;> rfl];have gY:=fY.g;refine go ?_;refine Bw (T3 Y.1 (kst m (k+1)) _ _ FT (aD _) gY ok) fun z _=>?_;cases e:Bm Y.1 (kst m (k+1)) with
  | none =>
   rw [Atp e];have hnY:Sa X (k+1) (m+1)=Y:=by show J0 (Sa X (k+1) m) (kst m (k+1))=Y;rw [hY];exact Ix e
   have hnB:Abj M X (k+1) (m+1)=B:=by show (Abj M X (k+1) m || (Bm (Sa X (k+1) m).1 (kst m (k+1))).isSome)=B;rw [hY,hB,e];exact eV B
   refine Eb (x:=L4) ?_;rintro f1 t1 G1 f2 t2 G2 f3 t3 G3 f4 t4 G4 f5 t5 G5 f6 t6 G6 f7 t7 G7 ez - - - - - - -;rw [ez];refine go ?_;intros;refine Cv ⟨m+1,_,_,ya,yc,yF⟩ (by show m+1<=2;omega) (by show 2 - (m+1) < 2 - m;omega) (by dsimp only;rw [hnY,hnB];exact frE) (by dsimp only;rw [hnY];exact hsE)
  | some r =>
   rw [Aj7 gY ok e];have hnY:Sa X (k+1) (m+1)=(r.1,Y.2++r.2):=by show J0 (Sa X (k+1) m) (kst m (k+1))=_;rw [hY];exact P6 e
   have hnB:Abj M X (k+1) (m+1)=true:=by show (Abj M X (k+1) m || (Bm (Sa X (k+1) m).1 (kst m (k+1))).isSome)=true;rw [hY,hB,e];exact fW B
   have hr:=Akf gY ok e;refine Eb (x:=r.1) ?_;rintro f1 t1 G1 f2 t2 G2 f3 t3 G3 f4 t4 G4 f5 t5 G5 f6 t6 G6 f7 t7 G7 ez - - - - - - -;rw [ez];refine Az (E:=Bc) (xs:=r.2) fun F8=>?_;refine go ?_;intros;apply wO;refine M0 (E:=Bc) (xs:=Y.2) (ys:=r.2) Ej Gp fun a9 c9 F9=>?_;refine go ?_;refine Cv ⟨m+1,_,z.F,a9,c9,F9⟩ (by show m+1<=2;omega) (by show 2 - (m+1) < 2 - m;omega) (by dsimp only;rw [hnY,hnB];exact frE) (by dsimp only;rw [hnY];exact hsE)
 ·obtain rfl:m=2:=EM
  refine go ?_;refine Cv ⟨k+1,_,_,ya,yc,yF⟩ IQ (by show x.1.Ao.Ad.length - (k+1) < x.1.Ao.Ad.length - k;omega) (by dsimp only;rw [Ajp,hX,hM,hB,Zm,hX,hY];exact frE) (by dsimp only;rw [Zm,hX,hY];exact hsE)
structure FnS where
 k:Nat
 z:NV
 a:ai
 c:Nat
 F:ak
theorem Afn {n:Du} {r:Int} (hok:Po n r=true) {k:Nat} (hk:(k:Int)<=r):At (By n k).1=true/\(By n k).1.Ac.Ae=n.Ac.Ae+(k:Int)/\(By n k).2.length<=420000000000:=by
 unfold Po Ht at hok;simp only [av,aC] at hok;obtain ⟨⟨g,h1,h2⟩,h3⟩:=hok;obtain ⟨a, -,b,c⟩:=Add g k EM;exact ⟨a,b,EM⟩
theorem Yy (n:Du) (k:Nat):By n (k+1)=((Jk (Bv (By n k).1).1).1,(By n k).2++(Bv (By n k).1).2++(Jk (Bv (By n k).1).1).2):=rfl
theorem Ai3 {n:Du} (h1:At n=true) (hc:n.Ac.Ae < 9999):At (Bv n).1=true/\(Bv n).2.length<=320000/\(Jk (Bv n).1).2.length<=6720000000:=by
 have t1:=P5 h1 hc;have hn8:=(Ev (Av.1 h1).t).n1;have hn2:=(Ev (Av.1 h1).t).n0;have t4:(Bv n).2.length<=40000 * (n.Ao.Ad.length - 1):=Zq h1 hc _ EM;exact ⟨t1,EM,Ag8 t1⟩
theorem Abc (n:Du) (r:Int) (v:Value) (F FT:ak):Fn prog 6 [v,aa r] [.isv Nw v n F,Nx FT] [] (fun (_:Wx)=>True) (fun z=>.tuple #[.agg z.cs.toArray,.slice z.a (Ce n r).2.1.length z.c,.bool (Ce n r).2.2]) (fun z=>[.Mw Akz (.agg z.cs.toArray) (Ce n r).1 z.F,.ow Bc 9 (.slice z.a (Ce n r).2.1.length z.c) (Ce n r).2.1 z.Fe]):=by
 refine enter func6 rfl ntmps6 fun w0=>?_;refine Eb ?_;rintro a1 c1 F1 a2 c2 F2 a3 c3 F3 a4 c4 F4 a5 c5 F5 a6 c6 F6 a7 c7 F7 rfl l1 l2 l3 l4 l5 l6 l7;refine B4 Bi 3 ?_;refine B4 Bc 9 ?_;refine B4 Bx 130 ?_;refine B4 Ck 76 ?_;refine B4 Ca 83 ?_;refine B4 (Jo Ap 103) 85 ?_;refine B4 (Jo Ap 103) 85 ?_;refine Ni L4 ?_;refine B4 Bc 9 ?_;refine go ?_;intros;refine Bw (Uk n _ F) fun _ _=>?_;cases g1:At n
 ·rw [show Ce n r=(L4,[],false) by unfold Ce Po;rw [g1];rfl];exact AJ
 refine go ?_;intros;refine ce (fun w st=>Jc r 0 60 w) ?_;cases g2:Ht 0 r 60
 ·rw [show Ce n r=(L4,[],false) by unfold Ce Po;rw [g1,g2];rfl];exact AJ
 have hr:0<=r/\r<=60:=by unfold Ht at g2;simpa using g2
 have hck:=Sk (Av.1 g1).s;refine go ?_;intros;refine Bf rfl (fun h3=>?_) (fun h3=>?_)
 ·rw [show Ce n r=(L4,[],false) by unfold Ce Po;rw [g1,g2,ay (show ¬n.Ac.Ae+r<=9999 by omega)];rfl];exact AJ
 have hok:Po n r=true:=by unfold Po;rw [g1,g2,au (show n.Ac.Ae+r<=9999 by omega)];rfl
 have hres:Ce n r=((By n r.toNat).1,(By n r.toNat).2,true):=by unfold Ce;rw [hok,ar rfl]
 rw [hres];refine go ?_;intros;refine Bw (Aik n _ F (Te g1)) fun z _=>?_;refine go ?_;intros;rename_i g;refine Bw (Ail n g z.a1 z.c1 z.F1 z.a2 z.c2 z.F2 z.a3 z.c3 z.F3 z.a4 z.c4 z.F4 z.a5 z.c5 z.F5 z.a6 z.c6 z.F6 z.a7 z.c7 z.F7 FT g1) fun y _=>?_;refine go ?_;intros
 refine Cu [1,4,7,29] (fun s:FnS=>[(8,.slice s.a (By n s.k).2.length s.c),(30,aa (s.k:Nat))]) (fun s=>[.row g 37 0 [] [.slice s.z.a1 (By n s.k).1.Ao.Ad.length s.z.c1,aa (By n s.k).1.Ac.Aa.Al,aa (By n s.k).1.Ac.Aa.size,.slice s.z.a2 (By n s.k).1.Ac.Aa.An.length s.z.c2,aa (By n s.k).1.Ac.Ae,aa (By n s.k).1.Ac.quiet,.slice s.z.a3 (By n s.k).1.Ac.holds.length s.z.c3,.slice s.z.a4 (By n s.k).1.Ai.length s.z.c4,.slice s.z.a5 (By n s.k).1.Ah.length s.z.c5,.slice s.z.a6 (By n s.k).1.down.length s.z.c6,.slice s.z.a7 (By n s.k).1.up.length s.z.c7] [],.ow Bi 3 (.slice s.z.a1 (By n s.k).1.Ao.Ad.length s.z.c1) (By n s.k).1.Ao.Ad s.z.F1,.ow Bc 9 (.slice s.z.a2 (By n s.k).1.Ac.Aa.An.length s.z.c2) (By n s.k).1.Ac.Aa.An s.z.F2,.ow Bx 130 (.slice s.z.a3 (By n s.k).1.Ac.holds.length s.z.c3) (By n s.k).1.Ac.holds s.z.F3,.ow Ck 76 (.slice s.z.a4 (By n s.k).1.Ai.length s.z.c4) (By n s.k).1.Ai s.z.F4,.ow Ca 83 (.slice s.z.a5 (By n s.k).1.Ah.length s.z.c5) (By n s.k).1.Ah s.z.F5,.ow (Jo Ap 103) 85 (.slice s.z.a6 (By n s.k).1.down.length s.z.c6) (By n s.k).1.down s.z.F6,.ow (Jo Ap 103) 85 (.slice s.z.a7 (By n s.k).1.up.length s.z.c7) (By n s.k).1.up s.z.F7,.ow Bc 9 (.slice s.a (By n s.k).2.length s.c) (By n s.k).2 s.F]) (fun s=>(s.k:Int)<=r) (fun s=>r.toNat - s.k) ⟨0,y.1,y.2.a,y.2.c,y.2.F⟩ (by show ((0:Nat):Int)<=r;omega) fun s hs0=>?_
 obtain ⟨k,⟨x1,w1,K1,x2,w2,K2,x3,w3,K3,x4,w4,K4,x5,w5,K5,x6,w6,K6,x7,w7,K7⟩,ea,ec,eF⟩:=s;dsimp only at hs0 ⊢;obtain ⟨gk,ck,lk⟩:=Afn hok hs0;refine go ?_;intros;refine Bf rfl (fun h4=>?_) (fun h4=>?_)
 ·obtain ⟨gt,lt,ld⟩:=Ai3 gk EM;refine go ?_;intros;refine Bw (Azy (By n k).1 g x1 w1 K1 x2 w2 K2 x3 w3 K3 x4 w4 K4 x5 w5 K5 x6 w6 K6 x7 w7 K7 FT gk EM) fun u _=>?_;refine Az (E:=Bc) (xs:=(Bv (By n k).1).2) fun F8=>?_;refine go ?_;intros;apply wO;refine M0 (E:=Bc) (xs:=(By n k).2) (ys:=(Bv (By n k).1).2) Ej Gp fun a9 c9 F9=>?_;refine go ?_;intros;refine Bw (Ail (Bv (By n k).1).1 g u.1.a1 u.1.c1 u.1.F1 u.1.a2 u.1.c2 u.1.F2 u.1.a3 u.1.c3 u.1.F3 u.1.a4 u.1.c4 u.1.F4 u.1.a5 u.1.c5 u.1.F5 u.1.a6 u.1.c6 u.1.F6 u.1.a7 u.1.c7 u.1.F7 FT gt) fun y _=>?_
  refine Az (E:=Bc) (xs:=(Jk (Bv (By n k).1).1).2) fun F7=>?_;refine go ?_;intros;apply wO;have hl:((By n k).2++(Bv (By n k).1).2).length=(By n k).2.length+(Bv (By n k).1).2.length:=aw;refine M0 (E:=Bc) (xs:=(By n k).2++(Bv (By n k).1).2) (ys:=(Jk (Bv (By n k).1).1).2) Ej Gp fun a8 c8 F6=>?_;refine go ?_;intros;refine Cv ⟨k+1,y.1,a8,c8,F6⟩ (by show ((k+1:Nat):Int)<=r;omega) (by show r.toNat - (k+1) < r.toNat - k;omega) (by dsimp only;rw [Yy];exact frE) (by dsimp only;rw [Yy];exact hsE)
 ·rw [show r.toNat=k by omega];refine go ?_;intros;refine Ni (By n k).1 ?_;refine ret (⟨[.slice x1 (By n k).1.Ao.Ad.length w1,aa (By n k).1.Ac.Aa.Al,aa (By n k).1.Ac.Aa.size,.slice x2 (By n k).1.Ac.Aa.An.length w2,aa (By n k).1.Ac.Ae,aa (By n k).1.Ac.quiet,.slice x3 (By n k).1.Ac.holds.length w3,.slice x4 (By n k).1.Ai.length w4,.slice x5 (By n k).1.Ah.length w5,.slice x6 (By n k).1.down.length w6,.slice x7 (By n k).1.up.length w7],_,_,_,_⟩:Wx) trivial rfl
structure FqS where
 k:Nat
 cs:aj
 F:ak
 a:ai
 c:Nat
 Fe:ak
theorem Ab4 (n:Du) (r:Int) (v:Value) (F FT:ak):Fn prog 7 [v,aa r] [.isv Nw v n F,Nx FT] [] (fun (_:Wx)=>True) (fun z=>.tuple #[.agg z.cs.toArray,.slice z.a (Ce n r).2.1.length z.c,.bool (Ce n r).2.2]) (fun z=>[.isv Nw (.agg z.cs.toArray) (Ce n r).1 z.F,.ow Bc 9 (.slice z.a (Ce n r).2.1.length z.c) (Ce n r).2.1 z.Fe]):=by
 refine enter func7 rfl ntmps7 fun w0=>?_;refine Eb ?_;rintro a1 c1 F1 a2 c2 F2 a3 c3 F3 a4 c4 F4 a5 c5 F5 a6 c6 F6 a7 c7 F7 rfl l1 l2 l3 l4 l5 l6 l7;refine go ?_;intros;refine Bw (Apk n _ F) fun _ _=>?_;cases g1:At n
 ·rw [show Ce n r=(L4,[],false) by unfold Ce Po;rw [g1];rfl];refine Bn Bi EN ?_;refine Bn Bc EN ?_;refine Bn Bx EN ?_;refine Bn B9 EN ?_;refine Bn Cg EN ?_;refine Bn (Nr Ap EN) EN ?_;refine Bn (Nr Ap EN) EN ?_;refine I6 L4 (a1:=none) (c1:=0) (a2:=none) (c2:=0) (a3:=none) (c3:=0) (a4:=none) (c4:=0) (a5:=none) (c5:=0) (a6:=none) (c6:=0) (a7:=none) (c7:=0) ?_;refine go ?_;intros;refine Dk Bc ?_;refine go ?_;intros
  exact BM
 refine go ?_;intros;refine ce (fun w st=>Mf r 0 60 w) ?_;cases g2:Ht 0 r 60
 ·rw [show Ce n r=(L4,[],false) by unfold Ce Po;rw [g1,g2];rfl];refine Bn Bi EN ?_;refine Bn Bc EN ?_;refine Bn Bx EN ?_;refine Bn B9 EN ?_;refine Bn Cg EN ?_;refine Bn (Nr Ap EN) EN ?_;refine Bn (Nr Ap EN) EN ?_;refine I6 L4 (a1:=none) (c1:=0) (a2:=none) (c2:=0) (a3:=none) (c3:=0) (a4:=none) (c4:=0) (a5:=none) (c5:=0) (a6:=none) (c6:=0) (a7:=none) (c7:=0) ?_;refine go ?_;intros;refine Dk Bc ?_;refine go ?_;intros
  exact BM
 have hr:0<=r/\r<=60:=by unfold Ht at g2;simpa using g2
 have hck:=Sk (Av.1 g1).s;refine go ?_;intros;refine Bf rfl (fun h3=>?_) (fun h3=>?_)
 ·rw [show Ce n r=(L4,[],false) by unfold Ce Po;rw [g1,g2,ay (show ¬n.Ac.Ae+r<=9999 by omega)];rfl];refine Bn Bi EN ?_;refine Bn Bc EN ?_;refine Bn Bx EN ?_;refine Bn B9 EN ?_;refine Bn Cg EN ?_;refine Bn (Nr Ap EN) EN ?_;refine Bn (Nr Ap EN) EN ?_;refine I6 L4 (a1:=none) (c1:=0) (a2:=none) (c2:=0) (a3:=none) (c3:=0) (a4:=none) (c4:=0) (a5:=none) (c5:=0) (a6:=none) (c6:=0) (a7:=none) (c7:=0) ?_;refine go ?_;intros;refine Dk Bc ?_;refine go ?_;intros
  exact BM
 have hok:Po n r=true:=by unfold Po;rw [g1,g2,au (show n.Ac.Ae+r<=9999 by omega)];rfl
 have hres:Ce n r=((By n r.toNat).1,(By n r.toNat).2,true):=by unfold Ce;rw [hok,ar rfl]
 rw [hres];refine go ?_;intros;refine Bw (Adq n _ F FT g1) fun z _=>?_;refine Eb (x:=(Jk n).1) ?_;rintro f1 t1 G1 f2 t2 G2 f3 t3 G3 f4 t4 G4 f5 t5 G5 f6 t6 G6 f7 t7 G7 ez - - - - - - -;rw [ez];refine go ?_;intros;rename_i g;refine Cu [1,4,7] (fun s:FqS=>[(8,.slice s.a (By n s.k).2.length s.c),(9,aa (s.k:Nat))]) (fun s=>[.row g 37 0 [] s.cs [],.isv Nw (.agg s.cs.toArray) (By n s.k).1 s.F,.ow Bc 9 (.slice s.a (By n s.k).2.length s.c) (By n s.k).2 s.Fe]) (fun s=>(s.k:Int)<=r) (fun s=>r.toNat - s.k) ⟨0,_,z.F,z.a,z.c,z.Fe⟩ (by show ((0:Nat):Int)<=r;omega) fun s hs0=>?_
 obtain ⟨k,cs,Fx,ea,ec,eF⟩:=s;dsimp only at hs0 ⊢;obtain ⟨gk,ck,lk⟩:=Afn hok hs0;refine Eb (x:=(By n k).1) ?_;rintro b1 d1 G1 b2 d2 G2 b3 d3 G3 b4 d4 G4 b5 d5 G5 b6 d6 G6 b7 d7 G7 ev - - - - - - -;obtain rfl:=Oe ev;clear ev;refine go ?_;intros;refine Bf rfl (fun h4=>?_) (fun h4=>?_)
 ·obtain ⟨gt,lt,ld⟩:=Ai3 gk EM;have e4:Bm (By n k).1 Aby=some (Bv (By n k).1):=by
   unfold Bm;rw [aq EN,ar (show Aby.Bd=4 from rfl),aq EM]
  refine go ?_;intros;refine Bw (T3 (By n k).1 Aby _ _ FT EN gk EN) fun z _=>?_;rw [Aj7 gk EN e4];refine Eb (x:=(Bv (By n k).1).1) ?_;rintro f1 t1 G1 f2 t2 G2 f3 t3 G3 f4 t4 G4 f5 t5 G5 f6 t6 G6 f7 t7 G7 ez - - - - - - -;rw [ez];refine Az (E:=Bc) (xs:=(Bv (By n k).1).2) fun F8=>?_;refine go ?_;intros;apply wO;refine M0 (E:=Bc) (xs:=(By n k).2) (ys:=(Bv (By n k).1).2) Ej Gp fun a9 c9 F9=>?_;refine go ?_;intros;refine Bw (Adq (Bv (By n k).1).1 _ z.F FT gt) fun y _=>?_;refine Eb (x:=(Jk (Bv (By n k).1).1).1) ?_
  rintro f1 t1 G1 f2 t2 G2 f3 t3 G3 f4 t4 G4 f5 t5 G5 f6 t6 G6 f7 t7 G7 ez2 - - - - - - -;rw [ez2];refine Az (E:=Bc) (xs:=(Jk (Bv (By n k).1).1).2) fun F7=>?_;refine go ?_;intros;apply wO;have hl:((By n k).2++(Bv (By n k).1).2).length=(By n k).2.length+(Bv (By n k).1).2.length:=aw;refine M0 (E:=Bc) (xs:=(By n k).2++(Bv (By n k).1).2) (ys:=(Jk (Bv (By n k).1).1).2) Ej Gp fun a8 c8 F6=>?_;refine go ?_;intros
  refine Cv ⟨k+1,_,y.F,a8,c8,F6⟩ (by show ((k+1:Nat):Int)<=r;omega) (by show r.toNat - (k+1) < r.toNat - k;omega) (by dsimp only;rw [Yy];exact frE) (by dsimp only;rw [Yy];exact hsE)
 ·rw [show r.toNat=k by omega];refine go ?_;intros;refine ret (⟨_,Fx,_,_,_⟩:Wx) trivial rfl
theorem Au4 (fid:FuncId) (bd caps:aj) (A:List Pc) (hA:A.all (fun p=>!p.mu)=true) (xs:List Gf) (a:ai) (c:Nat) (F:ak) (p:Gf->Bool) (hb:O2 prog fid=true) (hl:xs.length<=1000000000)
  (hp:∀x∈xs,∀w,Nh A w->Calls prog fid (bd++[(.agg #[aa (x).Bd,aa (x).node,af (x).data]:Value)]++caps).toArray w (RB (.bool (p x)) w)) :
  Fn prog 150 [ab a xs.length c,.func (.func fid) bd.toArray caps.toArray] (.sl Ox (ab a xs.length c) xs F::A) [] (fun (_:Unit)=>True) (fun _=>aa (Qz p xs)) (fun _=>[]):=by
 refine enter func150 rfl ntmps150 (fun w0=>?_) rfl EY .nil;refine go ?_;intros;refine Ei [0,1,4,7] (fun k:Nat=>[(8,aa (k:Nat))]) (fun k=>k<=xs.length/\∀j (_:j < k) (hj:j < xs.length),p xs[j]=false) (fun k=>xs.length - k) 0 ⟨aD _,fun j h=>by omega⟩ fun k hk=>?_;obtain ⟨hk1,hk2⟩:=hk;refine go ?_;intros;refine Bf rfl (fun h5=>?_) (fun h5=>?_)
 ·have hh:k < xs.length:=EM
  refine go ?_;intros;refine Arj (xs:=xs) k ?_;rintro hi b o e sz;rw [e];refine go ?_;intros;apply wO;refine Wn rfl rfl hb Tt ?_;refine cb (fun w st=>hp xs[k] (aE hh) w (fun q hq=>st.on q FB)) ?_;cases hpk:p xs[k]
  ·refine go ?_;intros;refine Tg ?_;refine Cv (hH:=Jx _) (k+1) ⟨hh,fun j hj h=>?_⟩ EM;rcases aY (bt.1 hj) with h2|rfl
   ·exact hk2 j h2 h
   ·exact hpk
  ·refine go ?_;intros;exact DW
 ·obtain rfl:k=xs.length:=EM
  refine go ?_;intros;exact BO
theorem Au0 (fid:FuncId) (bd caps:aj) (A:List Pc) (hA:A.all (fun p=>!p.mu)=true) (xs:List Gf) (a:ai) (c:Nat) (F:ak) (p:Gf->Bool) (hb:O2 prog fid=true) (hl:xs.length<=1000000000)
  (hp:∀x∈xs,∀w,Nh A w->Calls prog fid (bd++[(.agg #[aa (x).Bd,aa (x).node,af (x).data]:Value)]++caps).toArray w (RB (.bool (p x)) w)) :
  Fn prog 86 [ab a xs.length c,.func (.func fid) bd.toArray caps.toArray] (.sl Ox (ab a xs.length c) xs F::A) [] (fun (_:Unit)=>True) (fun _=>.bool (xs.any p)) (fun _=>[]):=by
 refine enter func86 rfl ntmps86 (fun w0=>?_) rfl EY .nil;refine go ?_;intros;refine cb (fun w st=>(Au4 fid bd caps A hA xs a c F p hb hl hp).val w (fun q hq=>st.on q (by simpa using hq)) EY) ?_;refine go ?_;intros;refine ret () trivial ?_;rw [R8];rfl
theorem Atu {n:Du} {l:List Gf} (h:V5 n l=false):Je n l=(L4,[],0,false):=by unfold Je;rw [h];rfl
theorem Anm {n:Du} {l:List Gf} (h:V5 n l=true) {q:NE × Nat} (e:Q9 (n,[]) l 0=q):Je n l=(q.1.1,q.1.2,(q.2:Int),true):=by unfold Je;rw [h,e];rfl
theorem Agc {n:Du} {l:List Gf}:V5 n l=true↔At n=true/\l.length<=30/\∀s∈l,D5 s=true:=by
 unfold V5;simp only [av,aC,aQ];exact ⟨fun ⟨⟨a,b⟩,c⟩=>⟨a,b,c⟩,fun ⟨a,b,c⟩=>⟨⟨a,b⟩,c⟩⟩
theorem Azo {l:List Gf} {i:Nat} (hi:i < l.length) (x:NE):Q9 x (l.drop i) i=match Bm x.1 l[i] with
  | none=>(x,i)
  | some y=>Q9 (y.1,x.2++y.2) (l.drop (i+1)) (i+1):=by
 rw [bN hi];rfl
structure RnS where
 i:Nat
 x:NE
 z:NV
 a:ai
 c:Nat
 F:ak
structure RqS where
 i:Nat
 x:NE
 cs:aj
 F:ak
 a:ai
 c:Nat
 Fe:ak
theorem Ayn (s:Gf) (hs:s.data.size<=maxLen):FV 87 [.agg #[aa (s).Bd,aa (s).node,af (s).data]] [] (.bool (!D5 s)):=by
 refine enter func87 rfl ntmps87 fun w0=>?_;refine go ?_;intros;refine Bw (Ae3 s hs) fun _ _=>?_;refine go ?_;intros;exact BA
theorem Ak4 (l:List Gf) (a:ai) (c:Nat) (F:ak) (hl:l.length<=9223372036854775807):FV 40 [ab a l.length c,aa 30] [.sl Ox (ab a l.length c) l F] (.bool (decide (l.length<=30) && l.all D5)):=by
 refine enter func40 rfl ntmps40 fun w0=>?_;refine Aa3 (E:=Ox) (xs:=l) (fun s:Gf=>s.data.size<=maxLen) (fun w cs x F h=>by obtain ⟨_,h,_⟩:=h;exact h) ?_;intro hz;refine go ?_;intros;refine Dm rfl rfl (fun h1=>?_) (fun h1=>?_)
 ·refine go ?_;intros;refine cb (fun w st=>(Au0 87 [] [] [] rfl l a c F (fun s=>!D5 s) ER EM (fun s hs w _=>(Ayn s (hz s hs)).val w (by intro q hq;cases hq))).val w (I0 (st.get (p:=.sl Ox (ab a l.length c) l F) EQ))) ?_;refine go ?_;intros;refine ret () trivial ?_;rw [au (show l.length<=30 by omega),dy];simp;rfl
 ·refine go ?_;intros;refine ret () trivial ?_;rw [ay (show ¬l.length<=30 by omega)];rfl
theorem Ard (n:Du) (l:List Gf) (v:Value) (F:ak) (a:ai) (c:Nat) (Fl FT:ak):Fn prog 13 [v,ab a l.length c] [.isv Nw v n F,.sl Ox (ab a l.length c) l Fl,Nx FT] [] (fun (_:Wx)=>True) (fun z=>.tuple #[.agg z.cs.toArray,.slice z.a (Je n l).2.1.length z.c,aa (Je n l).2.2.1,.bool (Je n l).2.2.2]) (fun z=>[.Mw Akz (.agg z.cs.toArray) (Je n l).1 z.F,.ow Bc 9 (.slice z.a (Je n l).2.1.length z.c) (Je n l).2.1 z.Fe]):=by
 refine enter func13 rfl ntmps13 fun w0=>?_;refine Aa3 (E:=Ox) (xs:=l) (fun s:Gf=>s.data.size<=maxLen) (fun w cs x F h=>by obtain ⟨_,h,_⟩:=h;exact h) ?_;intro hz;refine Th (E:=Ox) (xs:=l) ?_;rintro a0 c0 e0 hl1 hl2;simp only [Value.slice.injEq,cP] at e0;obtain ⟨rfl,rfl⟩:=e0;refine Eb ?_;rintro a1 c1 F1 a2 c2 F2 a3 c3 F3 a4 c4 F4 a5 c5 F5 a6 c6 F6 a7 c7 F7 rfl l1 l2 l3 l4 l5 l6 l7;refine B4 Bi 3 ?_;refine B4 Bc 9 ?_;refine B4 Bx 130 ?_;refine B4 Ck 76 ?_;refine B4 Ca 83 ?_;refine B4 (Jo Ap 103) 85 ?_;refine B4 (Jo Ap 103) 85 ?_;refine Ni L4 ?_;refine B4 Bc 9 ?_;refine go ?_;intros
 refine Bw (Uk n _ F) fun _ _=>?_;cases g1:At n
 ·rw [Atu (n:=n) (l:=l) (by unfold V5;rw [g1];rfl)];exact AJ
 refine go ?_;intros;refine Bw (Ak4 l a c Fl EM) fun _ _=>?_;cases g2:(decide (l.length<=30) && l.all D5)
 ·rw [Atu (n:=n) (l:=l) (by unfold V5;rw [fG,g1,g2];rfl)];exact AJ
 have hok:V5 n l=true:=by unfold V5;rw [fG,g1,g2];rfl
 obtain ⟨-,h30,hall⟩:=Agc.1 hok;refine go ?_;intros;refine Bw (Aik n _ F (Te g1)) fun z _=>?_;refine go ?_;intros;rename_i g;refine B4 Bc 9 ?_;refine go ?_;intros
 refine Cu [1,4,8,25,26] (fun s:RnS=>[(9,ab s.a s.x.2.length s.c),(27,aa (s.i:Nat))]) (fun s=>[.row g 37 0 [] [ab s.z.a1 s.x.1.Ao.Ad.length s.z.c1,aa s.x.1.Ac.Aa.Al,aa s.x.1.Ac.Aa.size,ab s.z.a2 s.x.1.Ac.Aa.An.length s.z.c2,aa s.x.1.Ac.Ae,aa s.x.1.Ac.quiet,ab s.z.a3 s.x.1.Ac.holds.length s.z.c3,ab s.z.a4 s.x.1.Ai.length s.z.c4,ab s.z.a5 s.x.1.Ah.length s.z.c5,ab s.z.a6 s.x.1.down.length s.z.c6,ab s.z.a7 s.x.1.up.length s.z.c7] [],.ow Bi 3 (ab s.z.a1 s.x.1.Ao.Ad.length s.z.c1) s.x.1.Ao.Ad s.z.F1,.ow Bc 9 (ab s.z.a2 s.x.1.Ac.Aa.An.length s.z.c2) s.x.1.Ac.Aa.An s.z.F2,.ow Bx 130 (ab s.z.a3 s.x.1.Ac.holds.length s.z.c3) s.x.1.Ac.holds s.z.F3,.ow Ck 76 (ab s.z.a4 s.x.1.Ai.length s.z.c4) s.x.1.Ai s.z.F4,.ow Ca 83 (ab s.z.a5 s.x.1.Ah.length s.z.c5) s.x.1.Ah s.z.F5,.ow (Jo Ap 103) 85 (ab s.z.a6 s.x.1.down.length s.z.c6) s.x.1.down s.z.F6,.ow (Jo Ap 103) 85 (ab s.z.a7 s.x.1.up.length s.z.c7) s.x.1.up s.z.F7,.ow Bc 9 (ab s.a s.x.2.length s.c) s.x.2 s.F]) (fun s=>s.i<=l.length/\At s.x.1=true/\s.x.2.length<=400000 * s.i/\Q9 s.x (l.drop s.i) s.i=Q9 (n,[]) l 0) (fun s=>l.length - s.i) ⟨0,(n,[]),z,none,0,[]⟩ ⟨aD _,g1,aA _,rfl⟩ fun s hs0=>?_
 obtain ⟨i,x,⟨x1,w1,K1,x2,w2,K2,x3,w3,K3,x4,w4,K4,x5,w5,K5,x6,w6,K6,x7,w7,K7⟩,ea,ec,eF⟩:=s;obtain ⟨hi,gx,hx,hR⟩:=hs0;dsimp only at hi gx hx hR ⊢;refine go ?_;intros;refine Bf rfl (fun h4=>?_) (fun h4=>?_)
 ·have hil:i < l.length:=EM
  have hok1:=hall l[i] (aE hil);rw [Azo hil] at hR;refine Arj (xs:=l) i ?_;rintro hi2 b9 o9 e9 s9;rw [e9];refine go ?_;intros;refine Bw (Ah2 x.1 l[i] g x1 w1 K1 x2 w2 K2 x3 w3 K3 x4 w4 K4 x5 w5 K5 x6 w6 K6 x7 w7 K7 FT gx hok1 s9) fun y _=>?_;cases e:Bm x.1 l[i] with
  | none =>
   rw [e] at hR;rw [Anm hok hR.symm];refine go ?_;intros;refine Ni x.1 ?_;refine ret (⟨[ab y.1.a1 x.1.Ao.Ad.length y.1.c1,aa x.1.Ac.Aa.Al,aa x.1.Ac.Aa.size,ab y.1.a2 x.1.Ac.Aa.An.length y.1.c2,aa x.1.Ac.Ae,aa x.1.Ac.quiet,ab y.1.a3 x.1.Ac.holds.length y.1.c3,ab y.1.a4 x.1.Ai.length y.1.c4,ab y.1.a5 x.1.Ah.length y.1.c5,ab y.1.a6 x.1.down.length y.1.c6,ab y.1.a7 x.1.up.length y.1.c7],_,_,_,_⟩:Wx) trivial rfl
  | some r =>
   rw [e] at hR;have hr:=Kk gx hok1 e;have hf:=Akf gx hok1 e;have hl9:(x.2++r.2).length=x.2.length+r.2.length:=aw
   change T _ _ (.row g 37 0 [] [ab y.1.a1 r.1.Ao.Ad.length y.1.c1,aa r.1.Ac.Aa.Al,aa r.1.Ac.Aa.size,ab y.1.a2 r.1.Ac.Aa.An.length y.1.c2,aa r.1.Ac.Ae,aa r.1.Ac.quiet,ab y.1.a3 r.1.Ac.holds.length y.1.c3,ab y.1.a4 r.1.Ai.length y.1.c4,ab y.1.a5 r.1.Ah.length y.1.c5,ab y.1.a6 r.1.down.length y.1.c6,ab y.1.a7 r.1.up.length y.1.c7] []::.ow Bi 3 (ab y.1.a1 r.1.Ao.Ad.length y.1.c1) r.1.Ao.Ad y.1.F1::.ow Bc 9 (ab y.1.a2 r.1.Ac.Aa.An.length y.1.c2) r.1.Ac.Aa.An y.1.F2::.ow Bx 130 (ab y.1.a3 r.1.Ac.holds.length y.1.c3) r.1.Ac.holds y.1.F3::.ow Ck 76 (ab y.1.a4 r.1.Ai.length y.1.c4) r.1.Ai y.1.F4::.ow Ca 83 (ab y.1.a5 r.1.Ah.length y.1.c5) r.1.Ah y.1.F5::.ow (Jo Ap 103) 85 (ab y.1.a6 r.1.down.length y.1.c6) r.1.down y.1.F6::.ow (Jo Ap 103) 85 (ab y.1.a7 r.1.up.length y.1.c7) r.1.up y.1.F7::.ow Bc 9 (ab y.2.a r.2.length y.2.c) r.2 y.2.F::_) _
   refine Az (E:=Bc) (xs:=r.2) fun F8=>?_;refine go ?_;intros;apply wO;refine M0 (E:=Bc) (xs:=x.2) (ys:=r.2) Ej Gp fun a9 c9 F9=>?_;refine go ?_;intros;refine Cv ⟨i+1,(r.1,x.2++r.2),y.1,a9,c9,F9⟩ ⟨hil,hr,by show (x.2++r.2).length<=400000 * (i+1);omega,hR⟩ (by show l.length - (i+1) < l.length - i;omega)
 ·obtain rfl:i=l.length:=EM
  rw [fw] at hR;rw [Anm hok hR.symm];refine go ?_;intros;refine Ni x.1 ?_;refine ret (⟨[ab x1 x.1.Ao.Ad.length w1,aa x.1.Ac.Aa.Al,aa x.1.Ac.Aa.size,ab x2 x.1.Ac.Aa.An.length w2,aa x.1.Ac.Ae,aa x.1.Ac.quiet,ab x3 x.1.Ac.holds.length w3,ab x4 x.1.Ai.length w4,ab x5 x.1.Ah.length w5,ab x6 x.1.down.length w6,ab x7 x.1.up.length w7],_,_,_,_⟩:Wx) trivial rfl
theorem Bb7 (b:Bool):decide (¬b=b)=false:=by simp
theorem eqI (b:Int):decide (b=b)=true:=by simp
theorem Baq:∀q∈L4.down++L4.up,q.length<=6:=fun q hq=>by cases hq
theorem Ato (n:Du) (r:Int):∀q∈(Ce n r).1.down++(Ce n r).1.up,q.length<=6:=by
 unfold Ce
 split
 ·rename_i h;exact Afw (Afo h).1
 ·exact Baq
theorem Ay5 {t:Oc} {f y:Int} (h:(Dz t f y).2=true):(Dz t f y).1=Jp t f y/\At (Jp t f y)=true/\(0<=f/\f<=65535):=by
 have h1:=Apu h;have e:(Dz t f y).1=Jp t f y:=by
  unfold Dz at h ⊢
  split
  ·rfl
  ·rename_i h2;rw [aq h2] at h;cases h
 rw [e] at h1;exact ⟨e,h1,(D0.1 (Dd.1 (Av.1 h1).s).1).1⟩
theorem Akc {t:Oc} {f y:Int} {L:List Gf} {M:Du} {es:ah} {k:Int} (hg:At (Jp t f y)=true) (hf:0<=f/\f<=65535) (hD:Drw L) (e:Je (Jp t f y) L=(M,es,k,true)) :
  ∃D ds,Ce M 60=(D,ds,true)/\Nf D=(true,true)/\Qe M.Ac.Aa=(Im M.Ac.Aa,true)/\Qe D.Ac.Aa=(Im M.Ac.Aa,true):=by
 have hok:V5 (Jp t f y) L=true:=by
  cases c:V5 (Jp t f y) L
  ·unfold Je at e;rw [aq (by rw [c];decide)] at e;cases e
  ·rfl
 obtain ⟨g1,h30,hall⟩:=Agc.1 hok;have hM:M=(Q9 (Jp t f y,[]) L 0).1.1:=by
  unfold Je at e;rw [ar hok] at e;simp only [Prod.mk.injEq] at e;exact e.1.symm
 obtain ⟨a,b,c⟩:=Se.Alr hg hf hD h30 hall;rw [<-hM] at a b c;have hF:=Afo a;have hR:Ce M 60=((By M 60).1,(By M 60).2,true):=by
  unfold Ce;rw [ar a];rfl
 have hgM:At M=true:=by
  unfold Po at a;simp only [av] at a;exact a.1.1
 have hw:=(Dd.1 (Av.1 hgM).s).1;have hl:Qe M.Ac.Aa=(Im M.Ac.Aa,true):=by unfold Qe;rw [hw];rfl
 refine ⟨_,_,hR,?_,hl,by rw [c];exact hl⟩;unfold Nf;rw [ar (show At (By M 60).1=true from hF.1),b]
theorem Al5 (v:Value) (Cd:al) (G FT:ak):FV 3 [v] [.sl Iy v Cd G,Nx FT] (.bool true):=by
 refine enter func3 rfl ntmps3 fun w0=>?_;refine go ?_;intros;refine cb (fun w st=>(Az1 v Cd G).val w (I0 (st.get (p:=.sl Iy v Cd G) EO))) ?_;refine go ?_;intros;refine Bf rfl (fun h=>?_) (fun h=>?_)
 ·refine go ?_;intros;exact BA
 refine go ?_;intros;refine Bw (Ae2 v Cd G FT) fun z hz=>?_;obtain ⟨x,cs,Fx,r⟩:=z;dsimp only at hz ⊢;refine Eb (x:=x) ?_;rintro b1 d1 G1 b2 d2 G2 b3 d3 G3 b4 d4 G4 b5 d5 G5 b6 d6 G6 b7 d7 G7 ev - - - - - - -;obtain rfl:=Oe ev;clear ev;refine go ?_;intros;have hP:=Abc x r (.agg #[ab b1 x.Ao.Ad.length d1,aa x.Ac.Aa.Al,aa x.Ac.Aa.size,ab b2 x.Ac.Aa.An.length d2,aa x.Ac.Ae,aa x.Ac.quiet,ab b3 x.Ac.holds.length d3,ab b4 x.Ai.length d4,ab b5 x.Ah.length d5,ab b6 x.down.length d6,ab b7 x.up.length d7]) Fx FT
 have hQ:=Ab4 x r (.agg #[ab b1 x.Ao.Ad.length d1,aa x.Ac.Aa.Al,aa x.Ac.Aa.size,ab b2 x.Ac.Aa.An.length d2,aa x.Ac.Ae,aa x.Ac.quiet,ab b3 x.Ac.holds.length d3,ab b4 x.Ai.length d4,ab b5 x.Ah.length d5,ab b6 x.down.length d6,ab b7 x.up.length d7]) Fx FT;have hq:=Ato x r;obtain ⟨M,es,b,e⟩:∃M es b,Ce x r=(M,es,b):=⟨_,_,_,rfl⟩;rw [e] at hP hQ hq;dsimp only at hP hQ hq;refine Bw hP fun p9 _=>?_;obtain ⟨pcs,pF,pa,pc,pG⟩:=p9;dsimp only;refine Qf Wd fun F5=>?_;refine Az (E:=Bc) (xs:=es) fun F6=>?_;refine Eb (x:=M) ?_
 rintro e1 f1 K1 e2 f2 K2 e3 f3 K3 e4 f4 K4 e5 f5 K5 e6 f6 K6 e7 f7 K7 ev - - - - - - -;obtain rfl:=Oe ev;clear ev;refine go ?_;intros;refine Bw hQ fun p9 _=>?_;obtain ⟨qcs,qF,qa,qc,qG⟩:=p9;dsimp only;refine Az (E:=Bc) (xs:=es) fun F7=>?_;refine Eb (x:=M) ?_;rintro u1 m1 R1 u2 m2 R2 u3 m3 R3 u4 m4 R4 u5 m5 R5 u6 m6 R6 u7 m7 R7 ev - - - - - - -;obtain rfl:=Oe ev;clear ev;refine go ?_;intros;rw [Bb7];refine go ?_;intros;refine Bw (Az2 _ _ M _ _ fun q9 h9=>bi (hq q9 h9) EN) fun _ _=>?_;refine go ?_;intros;refine Bw (Akn _ _ es _ _) fun _ _=>?_;refine go ?_;intros
 refine Bw (Akw v Cd G) fun z hz=>?_;obtain ⟨tl,ta,tc,tF,f,y⟩:=z;dsimp only at hz ⊢;refine go ?_;intros;have hP:=Aq6 ⟨tl⟩ f y (.agg #[ab ta tl.length tc]) tF;have hn:=@Ay5 ⟨tl⟩ f y;obtain ⟨N,b2,e2⟩:∃M b,Dz ⟨tl⟩ f y=(M,b):=⟨_,_,rfl⟩;rw [e2] at hP hn;dsimp only at hP hn;refine Bw hP fun p9 _=>?_;obtain ⟨pcs,pF⟩:=p9;dsimp only;refine Qf Wd fun F8=>?_;refine Eb (x:=N) ?_;rintro i1 j1 W1 i2 j2 W2 i3 j3 W3 i4 j4 W4 i5 j5 W5 i6 j6 W6 i7 j7 W7 ev - - - - - - -;obtain rfl:=Oe ev;clear ev;refine go ?_;intros;refine Bw (Akx v Cd G FT) fun z hz=>?_;obtain ⟨hl, -,hD⟩:=hz;obtain ⟨z,cs,Fz,L,la,lc,Fl⟩:=z
 dsimp only at hl hD ⊢;refine Eb (x:=z) ?_;rintro a1 c1 X1 a2 c2 X2 a3 c3 X3 a4 c4 X4 a5 c5 X5 a6 c6 X6 a7 c7 X7 ev - - - - - - -;obtain rfl:=Oe ev;clear ev;refine go ?_;intros;have hP:=Ard N L (.agg #[ab i1 N.Ao.Ad.length j1,aa N.Ac.Aa.Al,aa N.Ac.Aa.size,ab i2 N.Ac.Aa.An.length j2,aa N.Ac.Ae,aa N.Ac.quiet,ab i3 N.Ac.holds.length j3,ab i4 N.Ai.length j4,ab i5 N.Ah.length j5,ab i6 N.down.length j6,ab i7 N.up.length j7]) F8 la lc Fl FT;obtain ⟨Q,ds,k,b3,e3⟩:∃M es k b,Je N L=(M,es,k,b):=⟨_,_,_,_,rfl⟩;rw [e3] at hP;dsimp only at hP
 refine Bw hP fun p9 _=>?_;obtain ⟨pcs,pF,pa,pc,pG⟩:=p9;dsimp only;refine Qf Wd fun F9=>?_;refine Az (E:=Bc) (xs:=ds) fun F10=>?_;refine Eb (x:=Q) ?_;rintro n1 o1 Y1 n2 o2 Y2 n3 o3 Y3 n4 o4 Y4 n5 o5 Y5 n6 o6 Y6 n7 o7 Y7 ev - - - - - - -;obtain rfl:=Oe ev;clear ev;refine go ?_;intros;cases b2
 ·refine go ?_;intros;exact BA
 cases b3
 ·refine go ?_;intros;exact BA
 obtain ⟨rfl,hg0,hf0⟩:=hn rfl;obtain ⟨D,gs,r1,r2,r3,r4⟩:=Akc hg0 hf0 hD e3;have hP:=Abc Q 60 (.agg #[ab n1 Q.Ao.Ad.length o1,aa Q.Ac.Aa.Al,aa Q.Ac.Aa.size,ab n2 Q.Ac.Aa.An.length o2,aa Q.Ac.Ae,aa Q.Ac.quiet,ab n3 Q.Ac.holds.length o3,ab n4 Q.Ai.length o4,ab n5 Q.Ah.length o5,ab n6 Q.down.length o6,ab n7 Q.up.length o7]) F9 FT;rw [r1] at hP;dsimp only at hP;refine go ?_;intros;refine Bw hP fun p9 _=>?_;obtain ⟨pcs,pF,pa,pc,pG⟩:=p9;dsimp only;refine Qf Wd fun F11=>?_;refine Az (E:=Bc) (xs:=gs) fun F12=>?_;refine Eb (x:=D) ?_
 rintro p1 t1 Z1 p2 t2 Z2 p3 t3 Z3 p4 t4 Z4 p5 t5 Z5 p6 t6 Z6 p7 t7 Z7 ev - - - - - - -;obtain rfl:=Oe ev;clear ev;refine go ?_;intros;have hS:=Ak0 D (.agg #[ab p1 D.Ao.Ad.length t1,aa D.Ac.Aa.Al,aa D.Ac.Aa.size,ab p2 D.Ac.Aa.An.length t2,aa D.Ac.Ae,aa D.Ac.quiet,ab p3 D.Ac.holds.length t3,ab p4 D.Ai.length t4,ab p5 D.Ah.length t5,ab p6 D.down.length t6,ab p7 D.up.length t7]) F11;rw [r2] at hS;refine Bw hS fun _ _=>?_;refine Ke ?_;intros;refine Co Q.Ac.Aa (a1:=n2) ?_;have hL:=fun v F=>Aij Q.Ac.Aa v F;rw [r3] at hL;refine go ?_;intros
 refine Bw (hL _ _) fun _ _=>?_;refine Ke ?_;intros;refine Co D.Ac.Aa (a1:=p2) ?_;have hL:=fun v F=>Aij D.Ac.Aa v F;rw [r4] at hL;refine go ?_;intros;refine Bw (hL _ _) fun _ _=>?_;refine go ?_;intros;rw [eqI];refine go ?_;intros;exact BA
theorem Ayt {W:World} (hL:laidMetH prog Rows.fnSettlingRow.laid W) (_:W.ShapedOpen prog):(Nx [0]).P W:=by
 rw [MakeChecks.laidMetH_plain _ _ _ ER] at hL;have h3:=hL.tail.tail;have e:(Rows.laid_internal_strconv_uint64pow10:DataW Unit)=Lib.tabData .u64 Lib.pow10Tab:=ER
 rw [e] at h3;have ht:Lib.TabIs prog W "internal/strconv.uint64pow10" .u64 Lib.pow10Tab:=Lib.tabIs_of_head (g:=0) (t:=281) (e:=58) (n:=20) ER ER underlying281 underlying58 ER ER h3;have hc:=Lib.TabIs.cell ht (g:=0) ER 0 (by rw [Lib.pow10Tab_length];omega);refine ⟨[],rfl,rfl,ht,rfl,fun b hb=>?_⟩;simp only [aF,aM,bn] at hb;subst hb;exact World.block_lt_of_cell? W ⟨0,0,none⟩ hc
end Go.Proofs.YtmckdnddocfodaaGreatDoor
namespace Go.Proofs.YtmckdnddocfodaaGreatDoor
open Go.RowKit Go.ChangeShapes Go.WideShapes Go.ChangeAt
theorem Alw:Aip prog Iy 5:=fun h=>by
 obtain ⟨n,rfl,_,hw⟩:=DataW.trod_int underlying5 h;have hb:=bounds_u8 hw;exact ⟨n,[],rfl,hb.1,hb.2,rfl⟩
theorem Adu (v0:Value) (Cd:al) (F0 FT:ak) (w:World) (h0:Sl Iy w v0 Cd F0) (hT:(Nx FT).P w) :
  Calls prog 3 #[v0] w (RB (.bool true) w):=(Al5 v0 Cd F0 FT).val w (Vp ⟨EN,h0⟩ hT)
theorem Ze (os:Os) (A1:os.Started) (H:Type) (enc:TypeId × Value->H) :
  ReturnsInHanded {} Tryz.checked os 3 .any (fun w args=>(Rows.fnSettlingSpec.pre enc prog f3 Rows.fnSettlingRow.domain false w args/\laidMetH prog Rows.fnSettlingRow.laid w)/\sizedMet enc prog f3 (OpenSpec.ofChange Rows.fnSettlingSpec) false w args)
   (Rows.fnSettlingSpec.post enc prog f3 false true false false):=by
 have core:∀(W:World) (base:Nat) (args:Array Value) (ds gs:List (DataW H)) (before:List MemPlace),
   (∀(j:Nat) t v,f3.params[j]?=some t->args[j]?=some v->Value.okWide prog W .any base t v)->DataW.Whole enc prog f3.params.toList Rows.fnSettlingSpec.vars false W args.toList ds gs before ->
   W.ShapedOpen prog->laidMetH prog Rows.fnSettlingRow.laid W->Calls prog 3 args W fun e W'=>∃v,e=.returned v/\Rows.fnSettlingSpec.post enc prog f3 false true false false W args v W':=by
  intro W base args ds gs before hval0 hW hsh hL;have hval:∀(j:Nat) t v,f3.params[j]?=some t->args[j]?=some v->Value.okWide prog W .any base t v:=hval0;have hW':=hW;obtain ⟨p,q,hA0,hV,rfl,hfz,hnd⟩:=hW;have hA:DataW.TrodAll enc prog W 0 (fun _=>true) true f3.params.toList args.toList ds p:=hA0;rw [params3] at hA hval;obtain ⟨v0,d0,rfl,rfl,h0⟩:=trodAll_one hA;obtain ⟨a0,l0,c0,rfl⟩:=okWide_slice underlying22 (hval 0 22 v0 rfl rfl);obtain ⟨fuel0,hf0⟩:=h0;obtain ⟨x0,F0,u0,hu0,hs0⟩:=(Aj5 underlying22 ER EN Alw) hf0
  obtain rfl:ab a0 l0 c0=u0:=by simpa [Value.cells] using hu0
  refine (Adu _ x0 F0 _ W hs0 (Ayt hL hsh)).mono fun e W' ⟨he,hB⟩=>⟨_,he,Ask (tb:=4) ER ?_ underlying4 ER rfl rfl hW' hB⟩;rw [params3];simp only [aF,aM,bn,forall_eq];exact ⟨ER,bP ER⟩
 refine returnsInHanded_of_calls (C:=Tryz.checked) ER A1 ER
  (ChangeSpec.witness_shaped (enc:=enc) (C:=Tryz.checked) (os:=os) (X:=fun w _=>laidMetH prog Rows.fnSettlingRow.laid w) false (World.laidAll prog os Rows.fnSettlingRow.laid) #[ab none 0 0] 8 (World.laidAll_os _ _ _)
   (World.shaped_of_ZipB ER ER) ER ER ER
   (by rw [MakeChecks.laidMetH_plain _ _ _ ER];exact laidMet_laidAll _ ER ER)) ?_
 intro w tape i _ hsh _ hok hpre _;obtain ⟨_,_,_,fn2,hfn2,_,_,_,_,hval⟩:=hok;obtain rfl:fn2=f3:=Option.some.inj (hfn2.symm.trans func3);obtain ⟨⟨⟨ds,gs,before,hw,_⟩,hL⟩,_⟩:=hpre;have hw2:=DataW.Whole.of_heap (w':=w.forCall tape i) FC hw;refine (core (w.forCall tape i) w.heap.size i.args ds gs before hval hw2 hsh (hL.of_heap FC)).mono fun e W' ⟨v,he,hp⟩=>?_;subst he;exact ChangeSpec.post_blind hp
end Go.Proofs.YtmckdnddocfodaaGreatDoor
