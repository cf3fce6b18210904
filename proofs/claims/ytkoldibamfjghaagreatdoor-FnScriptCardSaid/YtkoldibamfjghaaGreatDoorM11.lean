/- Part 11 of the proof: 3 texts, one behind the other. -/
import Derived.Test.YtkoldibamfjghaaGreatDoorRows
import Derived.MakeChecks
import Derived.Stop.LaidErr
import Derived.Shelf.Vars
import Derived.LaidLaws
import Derived.Test.YtkoldibamfjghaaGreatDoorM10
open _root_.Go.Proofs.Tryz
set_option maxRecDepth 100000
set_option maxHeartbeats 8000000
set_option linter.all false
set_option linter.unusedVariables false
set_option linter.unusedSimpArgs false
namespace Go.Proofs.YtkoldibamfjghaaGreatDoor
theorem BQ{p:Prop}(h:p:=by have r3:(Pj x k++bz (Lib.itoa ((i:Nat):Int))++⟨#[32]⟩++slB x.Bb.Ad[i]++⟨#[10]⟩).size=_:=aE;refine go ?_;rw [show Pj x k++bz (Lib.itoa ((i:Nat):Int))++⟨#[32]⟩++slB x.Bb.Ad[i]++⟨#[10]⟩=Pj x (k+1) by rw [hcs];unfold Ajj;apply dz;simp [cF]];refine Ca (k+1) (by omega) (by omega)):p:=h
theorem BU{p:Prop}(h:p:=by have rz:(Pj x k++(bz (Lib.itoa ((i:Nat):Int))++⟨#[32]⟩++slB x.Bb.Ad[i]++⟨#[10]⟩)).size=_:=aE;refine go ?_;rw [show Pj x k++(bz (Lib.itoa ((i:Nat):Int))++⟨#[32]⟩++slB x.Bb.Ad[i]++⟨#[10]⟩)=Pj x (k+1) from hcs.symm];refine Ca (k+1) (by omega) (by omega)):p:=h
end Go.Proofs.YtkoldibamfjghaaGreatDoor
namespace Go.Proofs.YtkoldibamfjghaaGreatDoor
open Go.RowKit
def Dc (x0:B4):au × Bool:=if D7 x0 then (Zm x0,true) else (⟨#[]⟩,false)
theorem Af0 {x:B4} (h:D7 x=true):At x.Bb=true/\0<=x.Il.count/\x.Il.count<=60:=by
 unfold D7 at h;rw [aw] at h;have h1:=(Lg.Abq h.2).cnt;have h2:=(Lk (x.Il.Cg.data.toList++x.Il.pending.data.toList)).2;exact ⟨h.1,EZ,EZ⟩
theorem Aee (x:B4) (v:Value) (F FT:aq) (hz:x.Il.Cg.size+x.Il.pending.size<=1048576):FV 10 [v] [.isv Ed v x F,E4 FT] (.tuple #[af (Dc x).1,.bool (Dc x).2]):=by
 refine enter func10 rfl ntmps10 fun w0=>?_;refine Cd ?_;rintro a1 c1 F1 a2 c2 F2 a3 c3 F3 a4 c4 F4 a5 c5 F5 a6 c6 F6 a7 c7 F7 rfl s1 s2 l1 l2 l3 l4 l5 l6 l7;refine Es x.Bb ?_;refine Ir x.Bb.Al ?_;refine go ?_;intros;refine Bf (Ua x _ F FT hz) fun _ _=>?_;cases g:D7 x
 ·rw [show Dc x=(⟨#[]⟩,false) by unfold Dc;rw [g];rfl];exact AA
 rw [show Dc x=(Zm x,true) by unfold Dc;rw [g];rfl];obtain ⟨gn,hc0,hc1⟩:=Af0 g;obtain ⟨gt,gs,gl, -⟩:=Mj.1 gn;have hg:=Gf gt;have hg8:=hg.n1;have hg2:=hg.n0;obtain ⟨k0,k1⟩:=Alm gs;obtain ⟨q1,q2,q3,q4⟩:=Bg.1 gl;have z1:=Akx hg;have z2:(bz (Lib.itoa x.Bb.Ab.Ai)).size<=4:=Ru k0 (by show _ < 10000;omega);have z3:(bz (Lib.itoa x.Il.count)).size<=2:=Ru hc0 (by show _ < 100;omega);have ql1:(⟨#[59,32,99,108,111,99,107,32]⟩:au).size=8:=rfl;have ql3:(⟨#[59,32,114,101,99,111,114,100,115,32]⟩:au).size=10:=rfl;have ql5:(⟨#[10]⟩:au).size=1:=rfl
 have q0:(bz (jn (x.Bb.Al.Ac.drop 1))++⟨#[59,32,99,108,111,99,107,32]⟩).size=_:=aE;have q1:(bz (jn (x.Bb.Al.Ac.drop 1))++⟨#[59,32,99,108,111,99,107,32]⟩++bz (Lib.itoa x.Bb.Ab.Ai)).size=_:=aE;have q2:(bz (jn (x.Bb.Al.Ac.drop 1))++⟨#[59,32,99,108,111,99,107,32]⟩++bz (Lib.itoa x.Bb.Ab.Ai)++⟨#[59,32,114,101,99,111,114,100,115,32]⟩).size=_:=aE;have q3:(bz (jn (x.Bb.Al.Ac.drop 1))++⟨#[59,32,99,108,111,99,107,32]⟩++bz (Lib.itoa x.Bb.Ab.Ai)++⟨#[59,32,114,101,99,111,114,100,115,32]⟩++bz (Lib.itoa x.Il.count)).size=_:=aE
 have q4:(bz (jn (x.Bb.Al.Ac.drop 1))++⟨#[59,32,99,108,111,99,107,32]⟩++bz (Lib.itoa x.Bb.Ab.Ai)++⟨#[59,32,114,101,99,111,114,100,115,32]⟩++bz (Lib.itoa x.Il.count)++⟨#[10]⟩).size=_:=aE;have hd:(x.Bb.Al.Ac.drop 1).length=x.Bb.Al.Ac.length - 1:=aX ..;refine go ?_;intros;refine Ar [0,1,4] [] ?_;refine Dh 0 1 ?_;refine dt 2 ?_;refine Amp 3 1 fun a8 c8 F8=>?_;refine Df 6 7 8 12 ?_;refine Dh 13 14 ?_;refine dN 4 ?_;refine oC ?_
 refine cb (fun w st=>(Arr (x.Bb.Al.Ac.drop 1) a8 c8 F8 FT (Ayk hg) EZ EZ).val w (Sz (st.get (p:=.sl Bc (.slice a8 (x.Bb.Al.Ac.drop 1).length c8) (x.Bb.Al.Ac.drop 1) F8) FD) (st.get (p:=E4 FT) FD))) ?_;refine dk ?_;refine dt 5 ?_;refine dN 9 ?_;refine oC ?_;refine cb (fun w st=>S0 x.Bb.Ab.Ai EZ EZ FT w (st.get (p:=E4 FT) FD)) ?_;refine dk ?_;refine Dh 10 11 ?_;refine dN 15 ?_;refine oC ?_;refine cb (fun w st=>S0 x.Il.count EZ EZ FT w (st.get (p:=E4 FT) FD)) ?_;refine dk ?_;refine Dh 16 17 ?_
 refine dt 18 ?_;refine dd ?_;rw [show bz (jn (x.Bb.Al.Ac.drop 1))++⟨#[59,32,99,108,111,99,107,32]⟩++bz (Lib.itoa x.Bb.Ab.Ai)++⟨#[59,32,114,101,99,111,114,100,115,32]⟩++bz (Lib.itoa x.Il.count)++⟨#[10]⟩=Pj x 0 by rfl];refine go ?_;refine Bf (Anl x.Bb.Al _ _ EZ) fun z _=>?_;refine Av (E:=Bc) (xs:=Tm x.Bb.Al.Ac) fun F11=>?_;have hlv:=Yf x.Bb.Al.Ac x.Bb.Al.Ac.length;have hlv2:(Tm x.Bb.Al.Ac).length<=8:=by unfold Tm;omega
 refine go ?_;refine Em [2,3,4,35,36] (fun k:Nat=>[(5,af (Pj x k)),(37,aa (k:Nat))]) (fun k=>k<=(Tm x.Bb.Al.Ac).length) (fun k=>(Tm x.Bb.Al.Ac).length - k) 0 (aG _) fun k hk0=>?_;refine go ?_;refine A4 rfl (fun h1=>?_) (fun h1=>?_)
 ·have hk:k < (Tm x.Bb.Al.Ac).length:=EZ
  obtain ⟨i,hi,he, -⟩:=Ak6 hk;have hir:i < x.Bb.Ad.length:=EZ
  have hcs:=Ab5 hk;rw [he,Agx hir] at hcs;have hsz:=Ab4 gn hc0 hc1 k EZ;have hsl:=Aha (Aa6 gn hir);have zi:(bz (Lib.itoa ((i:Nat):Int))).size<=1:=Ru (k:=0) EZ (by show _ < 10;omega);refine Hy (xs:=Tm x.Bb.Al.Ac) k ?_;rintro hi2 b o e1;rw [e1];rw [he];refine I8 (xs:=x.Bb.Ad) i ?_;rintro hi5 b5 o5 a9 c9 F9 a10 c10 F10 e5 l9 l10;rw [e5];refine Cb x.Bb.Ad[i].Aa ?_;cases hst:x.Bb.Ad[i].Be
  ·refine go ?_;intros;rw [show (⟨#[45]⟩:au)=slB x.Bb.Ad[i] from (by unfold slB;rw [hst];rfl:(⟨#[45]⟩:au)=slB x.Bb.Ad[i])];refine cb (fun w st=>S0 ((i:Nat):Int) EZ EZ FT w (st.get (p:=E4 FT) FD)) ?_;have rl1:(⟨#[32]⟩:au).size=1:=rfl;have rl3:(⟨#[10]⟩:au).size=1:=rfl;have r0:(bz (Lib.itoa ((i:Nat):Int))++⟨#[32]⟩).size=_:=aE;have r1:(bz (Lib.itoa ((i:Nat):Int))++⟨#[32]⟩++slB x.Bb.Ad[i]).size=_:=aE;have r2:(bz (Lib.itoa ((i:Nat):Int))++⟨#[32]⟩++slB x.Bb.Ad[i]++⟨#[10]⟩).size=_:=aE
   exact BU
  ·refine go ?_;intros;refine cb (fun w st=>(Ad7 x.Bb.Ad[i].Aa _ _ FT (Aqg (Aa6 gn hir) hst)).val w (Sz (st.get (p:=.isv Br (.agg #[aa x.Bb.Ad[i].Aa.next,.slice a9 x.Bb.Ad[i].Aa.Ap.length c9]) x.Bb.Ad[i].Aa F9) FD) (st.get (p:=E4 FT) FD))) ?_;refine go ?_;rw [show Tw x.Bb.Ad[i].Aa=slB x.Bb.Ad[i] from (by unfold slB;rw [hst];rfl:Tw x.Bb.Ad[i].Aa=slB x.Bb.Ad[i])];refine cb (fun w st=>S0 ((i:Nat):Int) EZ EZ FT w (st.get (p:=E4 FT) FD)) ?_;have rl1:(⟨#[32]⟩:au).size=1:=rfl;have rl3:(⟨#[10]⟩:au).size=1:=rfl
   have r0:(bz (Lib.itoa ((i:Nat):Int))++⟨#[32]⟩).size=_:=aE;have r1:(bz (Lib.itoa ((i:Nat):Int))++⟨#[32]⟩++slB x.Bb.Ad[i]).size=_:=aE;have r2:(bz (Lib.itoa ((i:Nat):Int))++⟨#[32]⟩++slB x.Bb.Ad[i]++⟨#[10]⟩).size=_:=aE;exact BU
 ·have hk:k=(Tm x.Bb.Al.Ac).length:=EZ
  rw [show Pj x k=Zm x by unfold Zm;rw [hk]];exact AA
theorem Yx (x:B4) (v:Value) (F FT:aq) (hz:x.Il.Cg.size+x.Il.pending.size<=1048576):FV 11 [v] [.isv Ed v x F,E4 FT] (.tuple #[af (Dc x).1,.bool (Dc x).2]):=by
 refine enter func11 rfl ntmps11 fun w0=>?_;refine Cd ?_;rintro a1 c1 F1 a2 c2 F2 a3 c3 F3 a4 c4 F4 a5 c5 F5 a6 c6 F6 a7 c7 F7 rfl s1 s2 l1 l2 l3 l4 l5 l6 l7;refine Es x.Bb ?_;refine Ir x.Bb.Al ?_;refine go ?_;intros;refine Bf (Yb x _ F hz) fun _ _=>?_;cases g:D7 x
 ·rw [show Dc x=(⟨#[]⟩,false) by unfold Dc;rw [g];rfl];exact AA
 rw [show Dc x=(Zm x,true) by unfold Dc;rw [g];rfl];obtain ⟨gn,hc0,hc1⟩:=Af0 g;obtain ⟨gt,gs,gl, -⟩:=Mj.1 gn;have hg:=Gf gt;have hg8:=hg.n1;have hg2:=hg.n0;obtain ⟨k0,k1⟩:=Alm gs;obtain ⟨q1,q2,q3,q4⟩:=Bg.1 gl;have z1:=Akx hg;have z2:(bz (Lib.itoa x.Bb.Ab.Ai)).size<=4:=Ru k0 (by show _ < 10000;omega);have z3:(bz (Lib.itoa x.Il.count)).size<=2:=Ru hc0 (by show _ < 100;omega);have ql1:(⟨#[59,32,99,108,111,99,107,32]⟩:au).size=8:=rfl;have ql3:(⟨#[59,32,114,101,99,111,114,100,115,32]⟩:au).size=10:=rfl;have ql5:(⟨#[10]⟩:au).size=1:=rfl
 have q0:(bz (jn (x.Bb.Al.Ac.drop 1))++⟨#[59,32,99,108,111,99,107,32]⟩).size=_:=aE;have q1:(bz (jn (x.Bb.Al.Ac.drop 1))++⟨#[59,32,99,108,111,99,107,32]⟩++bz (Lib.itoa x.Bb.Ab.Ai)).size=_:=aE;have q2:(bz (jn (x.Bb.Al.Ac.drop 1))++⟨#[59,32,99,108,111,99,107,32]⟩++bz (Lib.itoa x.Bb.Ab.Ai)++⟨#[59,32,114,101,99,111,114,100,115,32]⟩).size=_:=aE;have q3:(bz (jn (x.Bb.Al.Ac.drop 1))++⟨#[59,32,99,108,111,99,107,32]⟩++bz (Lib.itoa x.Bb.Ab.Ai)++⟨#[59,32,114,101,99,111,114,100,115,32]⟩++bz (Lib.itoa x.Il.count)).size=_:=aE
 have q4:(bz (jn (x.Bb.Al.Ac.drop 1))++⟨#[59,32,99,108,111,99,107,32]⟩++bz (Lib.itoa x.Bb.Ab.Ai)++⟨#[59,32,114,101,99,111,114,100,115,32]⟩++bz (Lib.itoa x.Il.count)++⟨#[10]⟩).size=_:=aE;have hd:(x.Bb.Al.Ac.drop 1).length=x.Bb.Al.Ac.length - 1:=aX ..;refine go ?_;refine Ar [0] [] ?_;refine Df 0 1 2 5 ?_;refine Df 6 7 8 12 ?_;refine Dh 13 14 ?_;refine dN 3 ?_;refine oC ?_;refine cb (fun w st=>(Axs x.Bb.Al _ _ hg).val w (Iw (st.get (p:=.isv Sq (.agg #[ab a1 x.Bb.Al.Ac.length c1]) x.Bb.Al F1) FD))) ?_;refine dk ?_;refine dt 4 ?_;refine dN 9 ?_
 refine oC ?_;refine cb (fun w st=>Acx x.Bb.Ab.Ai EZ EZ w) ?_;refine dk ?_;refine Dh 10 11 ?_;refine dN 15 ?_;refine oC ?_;refine cb (fun w st=>Acx x.Il.count EZ EZ w) ?_;refine dk ?_;refine Dh 16 17 ?_;refine dt 18 ?_;refine dd ?_;rw [show bz (jn (x.Bb.Al.Ac.drop 1))++⟨#[59,32,99,108,111,99,107,32]⟩++bz (Lib.itoa x.Bb.Ab.Ai)++⟨#[59,32,114,101,99,111,114,100,115,32]⟩++bz (Lib.itoa x.Il.count)++⟨#[10]⟩=Pj x 0 by rfl];refine go ?_;refine Bf (Ap5 x.Bb.Al _ _ hg) fun z _=>?_;refine Av (E:=Bc) (xs:=Tm x.Bb.Al.Ac) fun F11=>?_;have hlv:=Yf x.Bb.Al.Ac x.Bb.Al.Ac.length
 have hlv2:(Tm x.Bb.Al.Ac).length<=8:=by unfold Tm;omega
 refine go ?_;refine Em [1,2,3,5] (fun k:Nat=>[(4,af (Pj x k)),(6,aa (k:Nat))]) (fun k=>k<=(Tm x.Bb.Al.Ac).length) (fun k=>(Tm x.Bb.Al.Ac).length - k) 0 (aG _) fun k hk0=>?_;refine go ?_;refine A4 rfl (fun h1=>?_) (fun h1=>?_)
 ·have hk:k < (Tm x.Bb.Al.Ac).length:=EZ
  obtain ⟨i,hi,he, -⟩:=Ak6 hk;have hir:i < x.Bb.Ad.length:=EZ
  have hcs:=Ab5 hk;rw [he,Agx hir] at hcs;have hsz:=Ab4 gn hc0 hc1 k EZ;have hsl:=Aha (Aa6 gn hir);have zi:(bz (Lib.itoa ((i:Nat):Int))).size<=1:=Ru (k:=0) EZ (by show _ < 10;omega);refine Hy (xs:=Tm x.Bb.Al.Ac) k ?_;rintro hi2 b o e1;rw [e1];rw [he];refine I8 (xs:=x.Bb.Ad) i ?_;rintro hi5 b5 o5 a9 c9 F9 a10 c10 F10 e5 l9 l10;rw [e5];refine Cb x.Bb.Ad[i].Aa ?_;refine go ?_;refine Ar [1,4,6] [] ?_;refine Df 0 1 2 3 ?_;refine Df 4 5 6 7 ?_;refine dt 8 ?_;refine dN 9 ?_;apply Cm;rfl;intro _;refine dk ?_;refine dN 10 ?_;refine oS ?_;refine dk ?_;refine dd ?_;cases hst:x.Bb.Ad[i].Be
  ·refine go ?_;rw [show (⟨#[45]⟩:au)=slB x.Bb.Ad[i] from (by unfold slB;rw [hst];rfl:(⟨#[45]⟩:au)=slB x.Bb.Ad[i])];refine cb (fun w st=>Acx ((i:Nat):Int) EZ EZ w) ?_;have rl2:(⟨#[32]⟩:au).size=1:=rfl;have rl4:(⟨#[10]⟩:au).size=1:=rfl;have r0:(Pj x k++bz (Lib.itoa ((i:Nat):Int))).size=_:=aE;have r1:(Pj x k++bz (Lib.itoa ((i:Nat):Int))++⟨#[32]⟩).size=_:=aE;have r2:(Pj x k++bz (Lib.itoa ((i:Nat):Int))++⟨#[32]⟩++slB x.Bb.Ad[i]).size=_:=aE
   exact BQ
  ·refine go ?_;refine cb (fun w st=>(Ai9 x.Bb.Ad[i].Aa _ _ FT (Aqg (Aa6 gn hir) hst)).val w (Sz (st.get (p:=.isv Br (.agg #[aa x.Bb.Ad[i].Aa.next,.slice a9 x.Bb.Ad[i].Aa.Ap.length c9]) x.Bb.Ad[i].Aa F9) FD) (st.get (p:=E4 FT) FD))) ?_;refine go ?_;rw [show Tw x.Bb.Ad[i].Aa=slB x.Bb.Ad[i] from (by unfold slB;rw [hst];rfl:Tw x.Bb.Ad[i].Aa=slB x.Bb.Ad[i])];refine cb (fun w st=>Acx ((i:Nat):Int) EZ EZ w) ?_;have rl2:(⟨#[32]⟩:au).size=1:=rfl;have rl4:(⟨#[10]⟩:au).size=1:=rfl
   have r0:(Pj x k++bz (Lib.itoa ((i:Nat):Int))).size=_:=aE;have r1:(Pj x k++bz (Lib.itoa ((i:Nat):Int))++⟨#[32]⟩).size=_:=aE;have r2:(Pj x k++bz (Lib.itoa ((i:Nat):Int))++⟨#[32]⟩++slB x.Bb.Ad[i]).size=_:=aE;exact BQ
 ·have hk:k=(Tm x.Bb.Al.Ac).length:=EZ
  rw [show Pj x k=Zm x by unfold Zm;rw [hk]];exact AA
theorem Aqp (c:B4) (t:au):(Dg c t).1.length<=30:=by
 unfold Dg
 split
 ·rename_i h;unfold Xh at h;simp only [aw,aF] at h;show (Ch c (Kb t)).2.length<=30;rw [X5];exact h.1.2
 ·exact aG _
theorem Aza (v:Value) (By:ar) (G FT:aq):FV 3 [v] [.sl Jo v By G,E4 FT] (.bool true):=by
 refine enter func3 rfl ntmps3 fun w0=>?_;refine go ?_;refine cb (fun w st=>(Be8 v By G).val w (Iw (st.get (p:=.sl Jo v By G) FB))) ?_;refine go ?_;refine A4 rfl (fun h=>?_) (fun h=>?_)
 ·exact AA
 refine go ?_;refine Bf (Ao7 v By G FT) fun z hz=>?_;obtain ⟨⟨x,cs,Fx,i1,s1⟩,t⟩:=z;obtain ⟨hk,hsn,hlz,hln⟩:=hz;dsimp only at hk hsn hlz hln ⊢;refine Cd (x:=x) ?_;rintro b1 d1 G1 b2 d2 G2 b3 d3 G3 b4 d4 G4 b5 d5 G5 b6 d6 G6 b7 d7 G7 ev q1 q2 - - - - - - -;obtain rfl:=Pw ev;clear ev;refine C0 x q1 q2 (a1:=b1) (c1:=d1) (a2:=b2) (c2:=d2) (a3:=b3) (c3:=d3) (a4:=b4) (c4:=d4) (a5:=b5) (c5:=d5) (a6:=b6) (c6:=d6) (a7:=b7) (c7:=d7) ?_;refine go ?_;intros;rename_i g3;have hP:=fun v F=>Adh x t v F FT hsn EZ EZ;have hQ:=fun v F=>Aeo x t v F FT EZ EZ
 have hP1:=fun t v F (h:t.size<=1048576)=>Adh x t v F FT hsn EZ h;have hrl:=Aqp x t;have hsf:=Alh (c:=x) (t:=t);have hsn2:=Au6 (c:=x) (t:=t);obtain ⟨rs,ok,e⟩:∃rs ok,Dg x t=(rs,ok):=⟨_,_,rfl⟩;rw [e] at hP hQ hsf hsn2 hrl;dsimp only at hP hQ hsf hsn2 hrl;refine Bf (hP _ _) fun u _=>?_;obtain ⟨pa,pc,pF⟩:=u;dsimp only;refine Av (E:=A8) (xs:=rs) fun F5=>?_;refine go ?_;refine Bf (hQ _ _) fun u _=>?_;obtain ⟨qa,qc,qF⟩:=u;dsimp only;refine Av (E:=A8) (xs:=rs) fun F6=>?_;refine go ?_;rw [show decide (¬ok=ok)=false from by simp];refine go ?_
 rw [show decide (¬((rs.length:Nat):Int)=((rs.length:Nat):Int))=false from by simp];refine go ?_;refine Bx [2,3,4,5,6,7] (fun k:Nat=>[(9,aa (k:Nat))]) (fun _=>[]) (fun k=>k<=rs.length) (fun k=>rs.length - k) 0 (aG _) fun k hk2=>?_;refine go ?_;refine A4 rfl (fun h1=>?_) (fun h1=>?_)
 ·have hh:k < rs.length:=EZ
  refine Jv (a:=qa) (xs:=rs) k ?_;rintro hi0 bq oq e0 s0;refine Jv (a:=pa) (xs:=rs) k ?_;rintro hi1 bp op e2 s2;cases e0;cases e2;refine Io ?_;intros;refine Ar [0,1] [] ?_;refine Df 0 1 2 3 ?_;refine Df 4 5 6 7 ?_;refine dt 8 ?_;refine dd ?_;rw [show decide (¬rs[k]=rs[k])=false from by simp];refine go ?_;rw [show ((k:Nat):Int)+1=((k+1:Nat):Int) by omega];refine Ca (k+1) hh (by show rs.length - (k+1) < rs.length - k;omega)
 refine go ?_;refine Bf (Aol t EZ) fun u _=>?_;obtain ⟨la,lc,lF⟩:=u;dsimp only;refine Av (E:=A8) (xs:=Kb t) fun F7=>?_;cases ok
 ·refine go ?_;rw [show rs=[] from (Prod.mk.inj (hsn2 rfl)).1];exact AA
 obtain ⟨l0,r,y,ys,hl,h0,ht,hz0⟩:=hsf rfl;obtain ⟨rfl, -⟩:=Prod.mk.inj ht;rw [hl];refine go ?_;by_cases h2:(l0::r).length < 2
 ·rw [show decide ((((l0::r).length:Nat):Int) < 2)=true from av EZ];exact AA
 rw [show decide ((((l0::r).length:Nat):Int) < 2)=false from ay EZ];refine go ?_;have hP0:=fun v F=>hP1 l0 v F EZ;rw [h0] at hP0;dsimp only at hP0;refine Jv (a:=la) (xs:=l0::r) 0 ?_;rintro hi0 b0 o0 e0 s0;cases e0;refine Io ?_;intros;refine Ar [0,4] [] ?_;refine Df 0 1 2 3 ?_;refine dN 4 ?_;refine oC ?_;refine Bf (hP0 _ _) fun u _=>?_;obtain ⟨ua,uc,uF⟩:=u;dsimp only;refine Av (E:=A8) (xs:=[y]) fun F9=>?_;refine dk ?_;refine Df 5 6 7 8 ?_;refine dt 9 ?_;refine dd ?_;refine go ?_;refine Bf (Aee x _ _ FT EZ) fun _ _=>?_;refine go ?_
 refine Bf (Yx x _ _ FT EZ) fun _ _=>?_;refine Jv (a:=ua) (xs:=[y]) 0 ?_ (hi:=FB);rintro hi1 b2 o2 e2 s2;refine Jv (a:=pa) (xs:=y::ys) 0 ?_ (hi:=FB);rintro hi2 b3 o3 e3 s3;cases e2;cases e3;refine Io ?_;intros;refine Ar [0,1] [] ?_;refine Dh 0 1 ?_;refine C5 2 ?_;refine C5 3 ?_;refine C5 4 ?_;refine Dh 5 6 ?_;refine C5 7 ?_;refine C5 8 ?_;refine C5 9 ?_;refine C5 10 ?_;refine C5 11 ?_;refine C5 12 ?_;refine C5 13 ?_;rw [show decide ([y][0]=(y::ys)[0])=true from by simp];refine Dh 14 15 ?_;refine C5 16 ?_;refine C5 17 ?_;refine C5 18 ?_
 rw [show decide ((Dc x).1=(Dc x).1)=true from by simp];refine Dh 19 20 ?_;refine C5 21 ?_;refine C5 22 ?_;refine C5 23 ?_;rw [show decide ((Dc x).2=(Dc x).2)=true from by simp];refine Dh 24 25 ?_;exact CI
theorem Asf : "*" ++ "errors.errorString" = "*errors.errorString" := by decide
theorem Ay1:∀u,prog.typeName? 3 u=some "*errors.errorString" -> u=382:=by
 intro u h;exact typeName_ptr_named (nm := "errors.errorString") (by rw [Asf];kernel_rfl) FC FA u (by rw [Asf];exact h)
theorem Bd9 {W:World} (hL:laidMetH prog Rows.fnScriptRow.laid W) (hsh:W.ShapedOpen prog):(E4 [1,0,6,7]).P W:=by
 rw [MakeChecks.laidMetH_plain _ _ _ FC] at hL;have h3:=hL.tail.tail;have h5:=hL.tail.tail.tail.tail;have h6:=hL.tail.tail.tail.tail.tail;have e:(Rows.laid_internal_strconv_uint64pow10:DataW Unit)=Lib.tabData .u64 Lib.pow10Tab:=FC
 rw [e] at h3;have ht:Lib.TabIs prog W "internal/strconv.uint64pow10" .u64 Lib.pow10Tab:=Lib.tabIs_of_head (g:=1) (t:=293) (e:=58) (n:=20) FC FC underlying293 underlying58 FC FC h3;have hu:prog.underlying 172=some (.interface (prog.methodsAt 172)):=FC
 obtain ⟨a1,s1,hv1, -, -, -⟩:=laid_sentinel (g:=7) (ti:=172) (tp:=382) (te:=384) (ts:=9) h5 FC FC hu Ay1 underlying382 underlying384 rfl rfl underlying9 FC FC;obtain ⟨a2,s2,hv2, -, -, -⟩:=laid_sentinel (g:=6) (ti:=172) (tp:=382) (te:=384) (ts:=9) h6 FC FC hu Ay1 underlying382 underlying384 rfl rfl underlying9 FC FC
 obtain ⟨m,hm⟩:=cell_of_shapedOpen_int (P:=prog) (g:=0) (t:=3) (zero:=#[aa 0]) hsh (du FC) FC rfl FC FC underlying3;refine ⟨[],rfl,rfl,⟨ht,⟨m,hm⟩,⟨_,_,hv2⟩,⟨_,_,hv1⟩⟩,rfl,?_⟩;have hc:=Lib.TabIs.cell ht (g:=1) FC 0 (by rw [Lib.pow10Tab_length];omega);have b0:=World.block_lt_of_cell? W ⟨1,0,none⟩ hc;intro b hb;simp only [aH,aT,bm] at hb;rcases hb with rfl|rfl|rfl|rfl
 ·exact b0
 ·exact World.block_lt_of_cell? W ⟨0,0,none⟩ hm
 ·exact World.block_lt_of_cell? W ⟨6,0,none⟩ (by simpa using World.var?_cell (show prog.globalNamed "strconv.ErrSyntax" = some 6 by kernel_rfl) hv2 0)
 ·exact World.block_lt_of_cell? W ⟨7,0,none⟩ (by simpa using World.var?_cell (show prog.globalNamed "strconv.ErrRange" = some 7 by kernel_rfl) hv1 0)
end Go.Proofs.YtkoldibamfjghaaGreatDoor
