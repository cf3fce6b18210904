/- Part 11 of the proof: 19 texts, one behind the other. -/
import Derived.Test.YtkoldibamfjghaaGreatDoorRows
import Derived.MakeChecks
import Derived.Stop.LaidErr
import Derived.Shelf.Vars
import Derived.LaidLaws
import Derived.Test.YtkoldibamfjghaaGreatDoorM10
open _root_.Go.Proofs.Tryz
set_option maxRecDepth 100000
set_option maxHeartbeats 8000000
set_option linter.all false
set_option linter.unusedVariables false
set_option linter.unusedSimpArgs false
namespace Go.Proofs.YtkoldibamfjghaaGreatDoor
theorem AF{p:Prop}(h:p:=by refine ret (⟨_,_⟩:Ud) trivial rfl):p:=h
theorem AL{p:Prop}(h:p:=by have hu:u.size<=20:=(by decide:∀y∈([⟨#[115,101,110,100]⟩,⟨#[116,105,99,107]⟩,⟨#[100,114,97,105,110]⟩,⟨#[108,101,97,100]⟩,⟨#[113,117,101,117,101,100]⟩,⟨#[115,101,116,116,108,101,100]⟩,⟨#[]⟩,⟨#[119,104,97,116]⟩,⟨#[100,111,119,110]⟩,⟨#[100,111,119,110,32,120]⟩,⟨#[115,101,110,100,32,97,32,98]⟩,⟨#[102,97,99,101,115,32,49]⟩,⟨#[102,97,99,101,115,32,49,32,50,32,51]⟩,⟨#[97,64,98]⟩,⟨#[115,101,110,100,32]⟩]:ai),y.size<=20) u hq;refine go ?_;refine ret (⟨u,s4⟩:au × N1) ⟨by show u.size<=100;omega,h4.mono (by omega)⟩ rfl):p:=h
theorem AQ{p:Prop}(h:p:=by refine go ?_;apply wO;apply oc;rfl;exact Ie rfl rfl (by show 5+_<=9223372036854775807;omega);refine go ?_;refine ret (⟨_,s3⟩:au × N1) ⟨?_,h3.mono (by omega)⟩ rfl;show (⟨#[100,111,119,110,32]⟩++t:au).size<=100;rw [aQ];show 5+_<=100;omega):p:=h
theorem AU{p:Prop}(h:p:=by have hu:u.size<=20:=(by decide:∀y∈([⟨#[97]⟩,⟨#[97,98,99]⟩,⟨#[120]⟩,⟨#[104,101,108,108,111]⟩,⟨#[90]⟩,⟨#[97,98,99,100,101,102,103,104,105]⟩]:ai),y.size<=20) u hq;refine go ?_;apply wO;apply oc;rfl;exact Ie rfl rfl (by show 5+_<=9223372036854775807;omega);refine go ?_;refine ret (⟨_,s4⟩:au × N1) ⟨?_,h4.mono (by omega)⟩ rfl;show (⟨#[115,101,110,100,32]⟩++u:au).size<=100;rw [aQ];show 5+_<=100;omega):p:=h
theorem BA{p:Prop}(h:p:=by refine Cp R.1 s3 s4 (a1:=f1) (c1:=t1) (a2:=f2) (c2:=t2) (a3:=f3) (c3:=t3) (a4:=f4) (c4:=t4) (a5:=f5) (c5:=t5) (a6:=f6) (c6:=t6) (a7:=f7) (c7:=t7) ?_;exact AF):p:=h
theorem BL{p:Prop}(h:p:=by refine go ?_;refine Cp x s1 s2 (a1:=f1) (c1:=t1) (a2:=f2) (c2:=t2) (a3:=f3) (c3:=t3) (a4:=f4) (c4:=t4) (a5:=f5) (c5:=t5) (a6:=f6) (c6:=t6) (a7:=f7) (c7:=t7) ?_;exact AF):p:=h
theorem BU{p:Prop}(h:p:=by refine Ih ?_;intros;refine Ar [1] [3,4] ?_;refine Dg 0 1 ?_;refine dN 2 ?_;refine oC ?_;refine Be (Acv E ⟨#[44,32]⟩ _ _ F8 (by decide) hE.1 hE.2) fun _ _=>?_;refine dk ?_;refine dN 3 ?_;refine oS ?_;refine N2 ?_;refine R5 4 ?_;refine dd ?_;refine go ?_;exact AF):p:=h
theorem CE{p:Prop}(h:p:=by refine go ?_;refine Be (Vh (U2 (Bl n s)) _ _ F5 hf1 hf2) fun _ _=>?_;refine go ?_;refine ret (⟨⟨y.1.a1,y.1.c1,y.1.a2,y.1.c2,y.1.a3,y.1.c3,y.1.a4,y.1.c4,y.1.a5,y.1.c5,y.1.a6,y.1.c6,y.1.a7,y.1.c7⟩,_,_,_⟩:RuS) ?_ rfl;rfl):p:=h
theorem CJ{p:Prop}(h:p:=by refine dk ?_;refine dN 13 ?_;refine Nm (E:=A8) (xs:=[]) Dz Hv fun a9 c9 F9=>?_;rw [aZ];refine dk ?_;refine dt 14 ?_;refine dN 16 ?_;refine oS ?_;refine dk ?_;refine dd ?_;refine Bh (⟨_,a9,c9,F9⟩:L28) trivial):p:=h
theorem DK{p:Prop}(h:p:=by refine go ?_;exact AF):p:=h
theorem DZ{p:Prop}(h:p:=by refine dd ?_;refine go ?_;refine ret () trivial ?_;unfold Gg;rw [g];rw [aH rfl,Ahf hk3 hlf (by unfold Aci;rw [Gp h5,hst];rfl)];rfl):p:=h
theorem JH{p:Prop}(h:p:=by show 6+_<=9223372036854775807;omega):p:=h
end Go.Proofs.YtkoldibamfjghaaGreatDoor
namespace Go.Proofs.YtkoldibamfjghaaGreatDoor
open Go.RowKit
structure NL where
 a1:aj
 c1:Nat
 a2:aj
 c2:Nat
 a3:aj
 c3:Nat
 a4:aj
 c4:Nat
 a5:aj
 c5:Nat
 a6:aj
 c6:Nat
 a7:aj
 c7:Nat
structure RuS where
 z:NL
 t:au
 b:Bool
 F:aq
theorem Bh1 {p q r:Pc} {w:World} (h:p.P w) (h2:q.P w) (h3:r.P w):Od [p,q,r] w:=fun x hx=>by
 simp at hx;rcases hx with rfl|rfl|rfl
 ·exact h
 ·exact h2
 ·exact h3
def Ub (line:au):ai:=(Ea 32 line.data.toList).map bz
theorem Aka (line:au):wsL (Ub line)=Gb line:=by
 unfold wsL Ub Gb;rw [eS];exact (dQ fun x _=>Kd x).trans (fS _)
theorem Aj9 (line:au):0 < (Ub line).length/\(Ub line).length<=line.size+1/\∀t∈Ub line,t.size<=line.size:=by
 obtain ⟨r,hr, -⟩:=Rg 32 line.data.toList;obtain ⟨h1,h2⟩:=Avk line.data.toList;rw [C0] at h1;unfold Ub;rw [bf];refine ⟨by rw [hr];simp,h1,fun t ht=>?_⟩;obtain ⟨x,hx,rfl⟩:=bO.1 ht;have:=h2 x hx;rw [C0] at this;rw [Jv];exact this
theorem Arg {n:Dt} {s:Jh} (hg:At n=true) (hs:Do s=true):(U2 (Bl n s)).length<=900000000000/\∀e∈U2 (Bl n s),e.size<=100:=by
 cases e:Bl n s with
 | none=>exact ⟨aE _,fun e he=>by cases he⟩
 | some y =>
  have h1:=Aod hg hs e;refine ⟨by show y.2.length<=_;omega,fun z hz=>?_⟩;have:=(Yk (Aqs hg hs e z hz)).2;omega
theorem Abm {n:Dt} {line:au} {s:Jh} (h:I6 (Gb line)=some s):Ou n line=Kb n s:=by unfold Ou;rw [h]
theorem Ay2 {n:Dt} {line:au} {s:Jh} (h:I6 (Gb line)=some s) (hs:Do s=true):Hl n line=Hq n (Bl n s)/\Ou n line=if (Bl n s).isSome then some (Hl n line,if s.Cq=2\/s.Cq=4 then Xd (U2 (Bl n s)) else bz wOk) else none:=by
 have e:Ou n line=(Bl n s).map fun y=>(y.1,if s.Cq=2\/s.Cq=4 then Xd y.2 else bz wOk):=by rw [Abm h];unfold Kb;rw [aH hs]
 unfold Hl;rw [e];cases Bl n s with
 | none=>exact ⟨rfl,rfl⟩
 | some y=>exact ⟨rfl,rfl⟩
theorem Abl {n:Dt} {line:au} {r:Option au} (h:Ou n line=P3 n r):Hl n line=n:=by
 unfold Hl;rw [h];cases r <;> rfl
theorem Bg0 (n:Dt) (line:au) (g:Nat) (a1:aj) (c1:Nat) (a2:aj) (c2:Nat) (a3:aj) (c3:Nat) (a4:aj) (c4:Nat) (a5:aj) (c5:Nat) (a6:aj) (c6:Nat) (a7:aj) (c7:Nat) (F FT:aq) (hg:At n=true) (hl:line.size<=900):Fn prog 57 [Gc g 0 0,af line] [Gk FT] [.row g 37 0 [] [ab a1 n.Ap.Ad.length c1,aa n.Ab.Aa.Am,aa n.Ab.Aa.size,ab a2 n.Ab.Aa.Ak.length c2,aa n.Ab.Ai,aa n.Ab.quiet,ab a3 n.Ab.holds.length c3,ab a4 n.Af.length c4,ab a5 n.Ac.length c5,ab a6 n.down.length c6,ab a7 n.up.length c7] [],.own Ab5 (.agg #[ab a1 n.Ap.Ad.length c1,aa n.Ab.Aa.Am,aa n.Ab.Aa.size,ab a2 n.Ab.Aa.Ak.length c2,aa n.Ab.Ai,aa n.Ab.quiet,ab a3 n.Ab.holds.length c3,ab a4 n.Af.length c4,ab a5 n.Ac.length c5,ab a6 n.down.length c6,ab a7 n.up.length c7]) n F] (fun (u:RuS)=>Ou n line=if u.b then some (Hl n line,u.t) else none) (fun u=>.tuple #[af u.t,.bool u.b]) (fun u=>[.row g 37 0 [] [.slice u.z.a1 (Hl n line).Ap.Ad.length u.z.c1,aa (Hl n line).Ab.Aa.Am,aa (Hl n line).Ab.Aa.size,.slice u.z.a2 (Hl n line).Ab.Aa.Ak.length u.z.c2,aa (Hl n line).Ab.Ai,aa (Hl n line).Ab.quiet,.slice u.z.a3 (Hl n line).Ab.holds.length u.z.c3,.slice u.z.a4 (Hl n line).Af.length u.z.c4,.slice u.z.a5 (Hl n line).Ac.length u.z.c5,.slice u.z.a6 (Hl n line).down.length u.z.c6,.slice u.z.a7 (Hl n line).up.length u.z.c7] [],.own Ab5 (.agg #[.slice u.z.a1 (Hl n line).Ap.Ad.length u.z.c1,aa (Hl n line).Ab.Aa.Am,aa (Hl n line).Ab.Aa.size,.slice u.z.a2 (Hl n line).Ab.Aa.Ak.length u.z.c2,aa (Hl n line).Ab.Ai,aa (Hl n line).Ab.quiet,.slice u.z.a3 (Hl n line).Ab.holds.length u.z.c3,.slice u.z.a4 (Hl n line).Af.length u.z.c4,.slice u.z.a5 (Hl n line).Ac.length u.z.c5,.slice u.z.a6 (Hl n line).down.length u.z.c6,.slice u.z.a7 (Hl n line).up.length u.z.c7]) (Hl n line) u.F]):=by
 obtain ⟨hw0,hwl,hws⟩:=Aj9 line;refine enter func57 rfl ntmps57 fun w0=>?_;refine go ?_;refine cn (fun w st=>Bcv line ⟨#[32]⟩ EV EW FT w (st.get (p:=Gk FT) EX)) fun a0 c0 F0=>?_;rw [show Lib.splitB ⟨#[32]⟩ 0 (Lib.countB line ⟨#[32]⟩) line=Ub line from Ahc 32 line];generalize hwd:Ub line=ws at *;have hWL:wsL ws=Gb line:=by rw [<-hwd];exact Aka line
 refine Av (E:=A8) (xs:=ws) fun F1=>?_;refine go ?_;refine Be (Azh ws hw0 a0 c0 F1 FT (fun t ht=>by have:=hws t ht;omega)) fun u hu=>?_;obtain ⟨s,ok⟩:=u;obtain ⟨hs,hst⟩:=hu;dsimp only at hs hst ⊢;rw [hWL] at hst;cases ok
 rotate_left
 ·replace hst:I6 (Gb line)=some s:=hst;refine go ?_;intros;refine Be (Ahu s hs) fun _ _=>?_;cases hk:Do s
  ·have eN:Ou n line=none:=by rw [Abm hst];unfold Kb;rw [hk];rfl
   have eM:Hl n line=n:=Abl (r:=none) eN;rw [eM,eN];refine go ?_;refine ret (⟨⟨a1,c1,a2,c2,a3,c3,a4,c4,a5,c5,a6,c6,a7,c7⟩,⟨#[]⟩,false,F⟩:RuS) ?_ rfl;rfl
  obtain ⟨eM,eN⟩:=Ay2 (n:=n) hst hk;obtain ⟨hf1,hf2⟩:=Arg hg hk;rw [eN,eM];refine Xw (x:=n) ?_;rintro x1 w1 K1 x2 w2 K2 x3 w3 K3 x4 w4 K4 x5 w5 K5 x6 w6 K6 x7 w7 K7 ev - - - - - - -;simp only [Value.agg.injEq,Array.mk.injEq,List.cons.injEq,Value.slice.injEq,Value.int.injEq,cJ,cK] at ev;obtain ⟨⟨rfl,rfl⟩,⟨rfl,rfl⟩,⟨rfl,rfl⟩,⟨rfl,rfl⟩,⟨rfl,rfl⟩,⟨rfl,rfl⟩,rfl,rfl⟩:=ev;refine go ?_;refine Be (Alh n s g a1 c1 K1 a2 c2 K2 a3 c3 K3 a4 c4 K4 a5 c5 K5 a6 c6 K6 a7 c7 K7 FT hg hk hs) fun y _=>?_;refine Av (E:=A8) (xs:=U2 (Bl n s)) fun F5=>?_;refine Qd (Hq n (Bl n s)) ?_;by_cases k2:s.Cq=2
  ·rw [aH (show s.Cq=2\/s.Cq=4 from .inl k2)];refine go ?_;rw [show decide (s.Cq=2)=true from av k2];exact CE
  by_cases k4:s.Cq=4
  ·rw [aH (show s.Cq=2\/s.Cq=4 from .inr k4)];refine go ?_;rw [show decide (s.Cq=2)=false from ay k2];refine go ?_;refine A1 rfl (fun k5=>?_) (fun k5=>?_)
   rotate_left
   ·exact absurd k4 k5
   exact CE
  ·rw [aC (show ¬(s.Cq=2\/s.Cq=4) from fun h=>h.elim k2 k4)];refine go ?_;rw [show decide (s.Cq=2)=false from ay k2];refine go ?_;refine A1 rfl (fun k5=>?_) (fun k5=>?_)
   ·exact absurd k5 k4
   refine go ?_;refine ret (⟨⟨y.1.a1,y.1.c1,y.1.a2,y.1.c2,y.1.a3,y.1.c3,y.1.a4,y.1.c4,y.1.a5,y.1.c5,y.1.a6,y.1.c6,y.1.a7,y.1.c7⟩,bz wOk,_,_⟩:RuS) ?_ rfl;rfl
 replace hst:I6 (Gb line)=none:=hst;refine go ?_;intros;refine A1 rfl (fun h1=>?_) (fun h1=>?_)
 ·have eN:Ou n line=some ((Qf n).1,Xd (Qf n).2):=by unfold Ou;rw [hst];dsimp only;rw [aH (show line.data.toList=Wb from Dx.1 h1)]
  have eM:Hl n line=(Qf n).1:=by unfold Hl;rw [eN]
  rw [eN,eM];have hf1:=Ard hg;refine Xw (x:=n) ?_;rintro x1 w1 K1 x2 w2 K2 x3 w3 K3 x4 w4 K4 x5 w5 K5 x6 w6 K6 x7 w7 K7 ev - - - - - - -;simp only [Value.agg.injEq,Array.mk.injEq,List.cons.injEq,Value.slice.injEq,Value.int.injEq,cJ,cK] at ev;obtain ⟨⟨rfl,rfl⟩,⟨rfl,rfl⟩,⟨rfl,rfl⟩,⟨rfl,rfl⟩,⟨rfl,rfl⟩,⟨rfl,rfl⟩,rfl,rfl⟩:=ev;refine go ?_;refine Be (Av4 n g a1 c1 K1 a2 c2 K2 a3 c3 K3 a4 c4 K4 a5 c5 K5 a6 c6 K6 a7 c7 K7 FT hg) fun y _=>?_;refine Av (E:=A8) (xs:=(Qf n).2) fun F5=>?_;refine Qd (Qf n).1 ?_;refine go ?_
  refine Be (Vh (Qf n).2 _ _ F5 EV (fun e he=>by have:=(Yk (Bec hg e he)).2;omega)) fun _ _=>?_;refine go ?_;refine ret (⟨⟨y.1.a1,y.1.c1,y.1.a2,y.1.c2,y.1.a3,y.1.c3,y.1.a4,y.1.c4,y.1.a5,y.1.c5,y.1.a6,y.1.c6,y.1.a7,y.1.c7⟩,_,true,_⟩:RuS) ?_ rfl;rfl
 have hWlen:(Gb line).length=ws.length:=by rw [<-hWL];unfold wsL;rw [bf]
 refine go ?_;refine A1 rfl (fun h2=>?_) (fun h2=>?_)
 ·have eN:Ou n line=P3 n (Ku n line.data.toList):=by unfold Ou;rw [hst];dsimp only;rw [aC (show ¬line.data.toList=Wb from fun e=>h1 (Dx.2 e)),aH EV]
  have eM:=Abl eN;rw [eM,eN];refine go ?_;refine cfr (fun w st=>by obtain ⟨Fq,hq⟩:=st.rO Ye (v:=.agg #[ab a1 n.Ap.Ad.length c1,aa n.Ab.Aa.Am,aa n.Ab.Aa.size,ab a2 n.Ab.Aa.Ak.length c2,aa n.Ab.Ai,aa n.Ab.quiet,ab a3 n.Ab.holds.length c3,ab a4 n.Af.length c4,ab a5 n.Ac.length c5,ab a6 n.down.length c6,ab a7 n.up.length c7]) (x:=n) (F:=F) Bn;exact ⟨[.isv Oi _ n Fq,Gk FT],Up hq (st.get (p:=Gk FT) FA),rfl,Bcc n line _ Fq FT hg⟩) (fun u hu=>?_);refine Oz ?_;refine go ?_
  refine ret (⟨⟨a1,c1,a2,c2,a3,c3,a4,c4,a5,c5,a6,c6,a7,c7⟩,u.1,u.2,F⟩:RuS) ?_ rfl;show P3 n _=if u.2 then some (n,u.1) else none
  rw [hu];cases u.2 <;> rfl
 have hdr:((Gb line).drop 1).map bz=ws.drop 1:=by
  rw [<-hWL];unfold wsL;rw [<-List.map_drop,eS];exact (dQ fun x _=>Uj x).trans (fS _)
 have eN:Ou n line=if Ra (ws.drop 1) then P3 n (Jz n (ws[0]).data.toList (J8 (ws.drop 1))) else none:=by
  unfold Ou;rw [hst];dsimp only;rw [aC (show ¬line.data.toList=Wb from fun e=>h1 (Dx.2 e)),aC EV,hdr,<-hWL,show atW (wsL ws) 0=(ws[0]).data.toList from Ry hw0]
 have hdl:(ws.drop 1).length=ws.length - 1:=aX ..;refine go ?_;apply wO;refine sld (E:=A8) (xs:=ws) 1 fun a8 c8 F8=>?_;refine go ?_;refine Be (Anr (ws.drop 1) a8 c8 F8 FT (fun t ht=>by have:=hws t (bq ht);omega) EV) fun z _=>?_;cases hp:Ra (ws.drop 1)
 ·rw [hp] at eN;have eM:=Abl (r:=none) eN;have e2:Rq (ws.drop 1)=([],false):=by unfold Rq;rw [hp];rfl
  rw [e2];refine go ?_;rw [eM,eN];refine ret (⟨⟨a1,c1,a2,c2,a3,c3,a4,c4,a5,c5,a6,c6,a7,c7⟩,⟨#[]⟩,false,F⟩:RuS) ?_ rfl;rfl
 rw [hp,aH rfl] at eN;have eM:=Abl (r:=Jz n (ws[0]).data.toList (J8 (ws.drop 1))) eN;have e2:Rq (ws.drop 1)=(J8 (ws.drop 1),true):=by unfold Rq;rw [hp];rfl
 rw [eM,eN];have hvl:(J8 (ws.drop 1)).length=ws.length - 1:=by unfold J8;rw [bf,hdl]
 rw [e2];dsimp only;generalize J8 (ws.drop 1)=vs at *;have hvs:0 < vs.length:=EV
 obtain ⟨lx,la,lc⟩:=z;dsimp only;refine Av (E:=Bb) (xs:=vs) fun F8=>?_;refine Mg (xs:=ws) 0 ?_;rintro hi0 b0 o0 e0 s0;cases e0;refine Ih ?_;intros;refine Ar [0,5] [8,9,10,11] ?_;refine C8 0 1 2 3 ?_;refine Dg 4 5 ?_;refine dt 6 ?_;refine dN 7 ?_;refine oC ?_
 refine cfr (fun w st=>by obtain ⟨Fq,hq⟩:=st.rO Ye (v:=.agg #[ab a1 n.Ap.Ad.length c1,aa n.Ab.Aa.Am,aa n.Ab.Aa.size,ab a2 n.Ab.Aa.Ak.length c2,aa n.Ab.Ai,aa n.Ab.quiet,ab a3 n.Ab.holds.length c3,ab a4 n.Af.length c4,ab a5 n.Ac.length c5,ab a6 n.down.length c6,ab a7 n.up.length c7]) (x:=n) (F:=F) Bn;exact ⟨[.isv Oi _ n Fq,.sl Bb (ab la vs.length lc) vs F8,Gk FT],Bh1 hq (st.get (p:=.sl Bb (ab la vs.length lc) vs F8) FA) (st.get (p:=Gk FT) FA),rfl,Ba3 n ws[0] vs _ Fq la lc F8 FT hg hvs⟩) (fun u hu=>?_)
 refine Oz ?_;refine dk ?_;refine R5 8 ?_;refine R5 9 ?_;refine R5 10 ?_;refine R5 11 ?_;refine dd ?_;refine go ?_;refine ret (⟨⟨a1,c1,a2,c2,a3,c3,a4,c4,a5,c5,a6,c6,a7,c7⟩,u.1,u.2,F⟩:RuS) ?_ rfl;show P3 n _=if u.2 then some (n,u.1) else none
 rw [hu];cases u.2 <;> rfl
structure CoS where
 z:NL
 F:aq
structure Ud where
 cs:am
 F:aq
theorem Avs (x:Cu) (v:Value) (F:aq) (hs:Pl x.Bt):Fn prog 24 [v] [.isv Dw v x F] [] (fun (_:CoS)=>True) (fun z=>.agg #[ab z.z.a1 x.Bt.Ap.Ad.length z.z.c1,aa x.Bt.Ab.Aa.Am,aa x.Bt.Ab.Aa.size,ab z.z.a2 x.Bt.Ab.Aa.Ak.length z.z.c2,aa x.Bt.Ab.Ai,aa x.Bt.Ab.quiet,ab z.z.a3 x.Bt.Ab.holds.length z.z.c3,ab z.z.a4 x.Bt.Af.length z.z.c4,ab z.z.a5 x.Bt.Ac.length z.z.c5,ab z.z.a6 x.Bt.down.length z.z.c6,ab z.z.a7 x.Bt.up.length z.z.c7,af x.Im.Bj,af x.Im.pending,aa x.Im.count]) (fun z=>[.own Ab5 (.agg #[ab z.z.a1 x.Bt.Ap.Ad.length z.z.c1,aa x.Bt.Ab.Aa.Am,aa x.Bt.Ab.Aa.size,ab z.z.a2 x.Bt.Ab.Aa.Ak.length z.z.c2,aa x.Bt.Ab.Ai,aa x.Bt.Ab.quiet,ab z.z.a3 x.Bt.Ab.holds.length z.z.c3,ab z.z.a4 x.Bt.Af.length z.z.c4,ab z.z.a5 x.Bt.Ac.length z.z.c5,ab z.z.a6 x.Bt.down.length z.z.c6,ab z.z.a7 x.Bt.up.length z.z.c7]) x.Bt z.F]):=by
 refine enter func24 rfl ntmps24 fun w0=>?_;refine Cc ?_;rintro a1 c1 F1 a2 c2 F2 a3 c3 F3 a4 c4 F4 a5 c5 F5 a6 c6 F6 a7 c7 F7 rfl s1 s2 l1 l2 l3 l4 l5 l6 l7;refine E5 x.Bt (a1:=a1) (a2:=a2) (a3:=a3) (a4:=a4) (a5:=a5) (a6:=a6) (a7:=a7) ?_;refine Ih ?_;intros;refine Ar [1] [6] ?_;refine C8 0 1 3 4 ?_;refine dN 2 ?_;refine oC ?_;refine Be (Al0 x.Bt _ _ hs) fun z _=>?_;refine Qd x.Bt ?_;refine dk ?_;refine dt 5 ?_;refine dN 6 ?_;refine oS ?_;refine N2 ?_;refine dd ?_;refine go ?_;refine ret (⟨⟨z.a1,z.c1,z.a2,z.c2,z.a3,z.c3,z.a4,z.c4,z.a5,z.c5,z.a6,z.c6,z.a7,z.c7⟩,_⟩:CoS) trivial rfl
theorem Azk {d p:Bs} {k:Int} (h:Fs d p k=true):d.length+p.length<=30000:=by
 unfold Fs at h;simp only [aw,aF] at h;exact h.1
theorem Aav {x:Cu} (h:E9 x=true):x.Im.Bj.size+x.Im.pending.size<=30000:=by
 unfold E9 at h;rw [aw] at h;have:=Azk h.2;rw [C0,C0] at this;exact this
theorem As3 (x:Cu) (line:au) (g:Nat) (a1:aj) (c1:Nat) (a2:aj) (c2:Nat) (a3:aj) (c3:Nat) (a4:aj) (c4:Nat) (a5:aj) (c5:Nat) (a6:aj) (c6:Nat) (a7:aj) (c7:Nat) (F FT:aq) (hg:E9 x=true) (hl:line.size<=maxLen):Fn prog 25 [Gc g 0 0,af line] [Gk FT] [.row g 41 0 [] [ab a1 x.Bt.Ap.Ad.length c1,aa x.Bt.Ab.Aa.Am,aa x.Bt.Ab.Aa.size,ab a2 x.Bt.Ab.Aa.Ak.length c2,aa x.Bt.Ab.Ai,aa x.Bt.Ab.quiet,ab a3 x.Bt.Ab.holds.length c3,ab a4 x.Bt.Af.length c4,ab a5 x.Bt.Ac.length c5,ab a6 x.Bt.down.length c6,ab a7 x.Bt.up.length c7,af x.Im.Bj,af x.Im.pending,aa x.Im.count] [],.own Ab5 (.agg #[ab a1 x.Bt.Ap.Ad.length c1,aa x.Bt.Ab.Aa.Am,aa x.Bt.Ab.Aa.size,ab a2 x.Bt.Ab.Aa.Ak.length c2,aa x.Bt.Ab.Ai,aa x.Bt.Ab.quiet,ab a3 x.Bt.Ab.holds.length c3,ab a4 x.Bt.Af.length c4,ab a5 x.Bt.Ac.length c5,ab a6 x.Bt.down.length c6,ab a7 x.Bt.up.length c7]) x.Bt F] (fun (_:CoS)=>True) (fun _=>af (Rh x line).2) (fun u=>[.row g 41 0 [] [.slice u.z.a1 (Rh x line).1.Bt.Ap.Ad.length u.z.c1,aa (Rh x line).1.Bt.Ab.Aa.Am,aa (Rh x line).1.Bt.Ab.Aa.size,.slice u.z.a2 (Rh x line).1.Bt.Ab.Aa.Ak.length u.z.c2,aa (Rh x line).1.Bt.Ab.Ai,aa (Rh x line).1.Bt.Ab.quiet,.slice u.z.a3 (Rh x line).1.Bt.Ab.holds.length u.z.c3,.slice u.z.a4 (Rh x line).1.Bt.Af.length u.z.c4,.slice u.z.a5 (Rh x line).1.Bt.Ac.length u.z.c5,.slice u.z.a6 (Rh x line).1.Bt.down.length u.z.c6,.slice u.z.a7 (Rh x line).1.Bt.up.length u.z.c7,af (Rh x line).1.Im.Bj,af (Rh x line).1.Im.pending,aa (Rh x line).1.Im.count] [],.own Ab5 (.agg #[.slice u.z.a1 (Rh x line).1.Bt.Ap.Ad.length u.z.c1,aa (Rh x line).1.Bt.Ab.Aa.Am,aa (Rh x line).1.Bt.Ab.Aa.size,.slice u.z.a2 (Rh x line).1.Bt.Ab.Aa.Ak.length u.z.c2,aa (Rh x line).1.Bt.Ab.Ai,aa (Rh x line).1.Bt.Ab.quiet,.slice u.z.a3 (Rh x line).1.Bt.Ab.holds.length u.z.c3,.slice u.z.a4 (Rh x line).1.Bt.Af.length u.z.c4,.slice u.z.a5 (Rh x line).1.Bt.Ac.length u.z.c5,.slice u.z.a6 (Rh x line).1.Bt.down.length u.z.c6,.slice u.z.a7 (Rh x line).1.Bt.up.length u.z.c7]) (Rh x line).1.Bt u.F]):=by
 have hgn:At x.Bt=true:=by unfold E9 at hg;rw [aw] at hg;exact hg.1
 have hgl:Fs x.Im.Bj.data.toList x.Im.pending.data.toList x.Im.count=true:=by unfold E9 at hg;rw [aw] at hg;exact hg.2
 have hsz:=Aav hg;refine enter func25 rfl ntmps25 fun w0=>?_;refine go ?_;refine cb (fun w st=>Lg.Wj line ⟨#[]⟩ w hl (aE _)) ?_;rw [show Lg.By line ⟨#[]⟩=Of line from rfl];cases h1:Of line
 ·have e:Rh x line=(x,bz Baa):=by unfold Rh;rw [h1];rfl
  rw [e];refine go ?_;refine ret (⟨⟨a1,c1,a2,c2,a3,c3,a4,c4,a5,c5,a6,c6,a7,c7⟩,F⟩:CoS) trivial rfl
 refine go ?_;refine A1 rfl (fun h2=>?_) (fun h2=>?_)
 ·have e:Rh x line=(x,bz Aoq):=by unfold Rh;rw [h1,aH rfl,aH h2]
  rw [e];refine go ?_;refine ret (⟨⟨a1,c1,a2,c2,a3,c3,a4,c4,a5,c5,a6,c6,a7,c7⟩,F⟩:CoS) trivial rfl
 have hlz:line.size<=160:=by
  have h:=h1;unfold Of Lg.By Ff at h;simp only [aw,aF] at h;have:=h.1.1.1.1.2;omega
 rw [Afx ⟨h1,h2⟩];have ht:=Akn (Ala (line:=line) hgn);have hGd:Wx line.data.toList (Rk (Py x.Bt line)).data.toList:=Iw (by rw [<-Lg.M8];exact Vj h1 ht.1 ht.2);obtain ⟨xn,⟨d,p,q⟩⟩:=x;dsimp only at hgn hgl hsz h2 ht hGd ⊢;have hcn:=Lg.T0 hgl;obtain ⟨k,rfl⟩:∃k:Nat,q=(k:Int):=⟨q.toNat,EV⟩;refine go ?_
 refine cfr (fun w st=>by obtain ⟨Fq,hq⟩:=st.rO Ye (v:=.agg #[ab a1 xn.Ap.Ad.length c1,aa xn.Ab.Aa.Am,aa xn.Ab.Aa.size,ab a2 xn.Ab.Aa.Ak.length c2,aa xn.Ab.Ai,aa xn.Ab.quiet,ab a3 xn.Ab.holds.length c3,ab a4 xn.Af.length c4,ab a5 xn.Ac.length c5,ab a6 xn.down.length c6,ab a7 xn.up.length c7]) (x:=xn) (F:=F) Bn;exact ⟨[.isv Oi _ xn Fq],I4 hq,rfl,Al0 xn _ Fq (Ox hgn)⟩) (fun z _=>?_);refine Oz ?_;refine Qd xn ?_;refine go ?_;intros
 refine Be (Bg0 xn line _ z.a1 z.c1 z.a2 z.c2 z.a3 z.c3 z.a4 z.c4 z.a5 z.c5 z.a6 z.c6 z.a7 z.c7 _ FT hgn EV) fun u hu=>?_;refine go ?_
 refine Du [0,1] [] (fun _:NL × aq=>[(6,af (Py xn line))]) (fun z=>[.row g 41 0 [] [.slice z.1.a1 (Hl xn line).Ap.Ad.length z.1.c1,aa (Hl xn line).Ab.Aa.Am,aa (Hl xn line).Ab.Aa.size,.slice z.1.a2 (Hl xn line).Ab.Aa.Ak.length z.1.c2,aa (Hl xn line).Ab.Ai,aa (Hl xn line).Ab.quiet,.slice z.1.a3 (Hl xn line).Ab.holds.length z.1.c3,.slice z.1.a4 (Hl xn line).Af.length z.1.c4,.slice z.1.a5 (Hl xn line).Ac.length z.1.c5,.slice z.1.a6 (Hl xn line).down.length z.1.c6,.slice z.1.a7 (Hl xn line).up.length z.1.c7,af d,af p,aa (k:Int)] [],.own Ab5 (.agg #[.slice z.1.a1 (Hl xn line).Ap.Ad.length z.1.c1,aa (Hl xn line).Ab.Aa.Am,aa (Hl xn line).Ab.Aa.size,.slice z.1.a2 (Hl xn line).Ab.Aa.Ak.length z.1.c2,aa (Hl xn line).Ab.Ai,aa (Hl xn line).Ab.quiet,.slice z.1.a3 (Hl xn line).Ab.holds.length z.1.c3,.slice z.1.a4 (Hl xn line).Af.length z.1.c4,.slice z.1.a5 (Hl xn line).Ac.length z.1.c5,.slice z.1.a6 (Hl xn line).down.length z.1.c6,.slice z.1.a7 (Hl xn line).up.length z.1.c7]) (Hl xn line) z.2,Gk FT]) (fun _=>True) ?_ fun z _=>?_
 ·cases hb:u.b
  ·rw [hb] at hu;have eM:Hl xn line=xn:=by unfold Hl;rw [hu];rfl
   have eT:Py xn line=⟨#[63]⟩:=by unfold Py;rw [hu];rfl
   rw [eM,eT];refine go ?_;refine Bh (⟨a1,c1,a2,c2,a3,c3,a4,c4,a5,c5,a6,c6,a7,c7⟩,F) trivial
  ·rw [hb] at hu;have eT:Py xn line=u.t:=by unfold Py;rw [hu];rfl
   rw [eT];refine go ?_;refine Bh (⟨u.z.a1,u.z.c1,u.z.a2,u.z.c2,u.z.a3,u.z.c3,u.z.a4,u.z.c4,u.z.a5,u.z.c5,u.z.a6,u.z.c6,u.z.a7,u.z.c7⟩,u.F) trivial
 refine go ?_;refine Du [0,1] [0,1,2] (fun _:Unit=>[(6,af (Rk (Py xn line)))]) (fun _=>[]) (fun _=>True) ?_ fun _ _=>?_
 ·refine A1 rfl (fun h5=>?_) (fun h5=>?_)
  ·have e:Rk (Py xn line)=bz Bac:=by unfold Rk;rw [aH EV]
   rw [e];exact CN
  ·have e:Rk (Py xn line)=Py xn line:=by unfold Rk;rw [aC EV]
   rw [e];exact CN
 have hbs:(Lg.bs (Ka k line.data.toList (Rk (Py xn line)).data.toList)).size<=400:=by
  rw [Lg.Jk];have:=Acy (k:=k) EV hGd;omega
 refine Ih ?_;intros;refine Ar [0] [30] ?_;refine C8 0 1 2 3 ?_;refine C8 4 5 6 7 ?_;refine C8 8 9 10 11 ?_;refine C8 12 13 14 15 ?_;refine C8 16 17 18 21 ?_;refine C8 22 23 24 25 ?_;refine dt 26 ?_;refine dN 19 ?_;refine oC ?_;refine cb (fun w st=>Lg.Xc k line (Rk (Py xn line)) _ w EV hGd (Ar9 (st.get (p:=Gk FT) FA))) ?_;refine dk ?_;refine dt 20 ?_ (hy:=Ie rfl rfl EV);refine Dg 27 28 ?_;refine dt 29 ?_;refine dN 30 ?_;refine oS ?_;refine N2 ?_;refine dd ?_;refine go ?_
 refine ret (⟨⟨z.1.a1,z.1.c1,z.1.a2,z.1.c2,z.1.a3,z.1.c3,z.1.a4,z.1.c4,z.1.a5,z.1.c5,z.1.a6,z.1.c6,z.1.a7,z.1.c7⟩,_⟩:CoS) trivial rfl
theorem Ab3 (x:Cu) (line:au) (v:Value) (F FT:aq) (hs:Pl x.Bt) (hz:x.Im.Bj.size+x.Im.pending.size<=1048576) (hl:line.size<=maxLen):Fn prog 13 [v,af line] [.isv Dw v x F,Gk FT] [] (fun (_:Ud)=>True) (fun z=>.tuple #[.agg z.cs.toArray,af (Bp x line).2]) (fun z=>[.own Wy (.agg z.cs.toArray) (Bp x line).1 z.F]):=by
 refine enter func13 rfl ntmps13 fun w0=>?_;refine Cc ?_;rintro a1 c1 F1 a2 c2 F2 a3 c3 F3 a4 c4 F4 a5 c5 F5 a6 c6 F6 a7 c7 F7 rfl s1 s2 l1 l2 l3 l4 l5 l6 l7;refine E5 x.Bt (a1:=a1) (a2:=a2) (a3:=a3) (a4:=a4) (a5:=a5) (a6:=a6) (a7:=a7) ?_;refine go ?_;intros;refine Be (Avs x _ F hs) fun z _=>?_;refine go ?_;intros;rename_i g6;refine Be (Qc x _ F FT hz) fun _ _=>?_;unfold Bp;cases hg:E9 x
 ·rw [aC EW];refine go ?_;refine Xw (x:=x.Bt) ?_;rintro x1 w1 K1 x2 w2 K2 x3 w3 K3 x4 w4 K4 x5 w5 K5 x6 w6 K6 x7 w7 K7 ev - - - - - - -;simp only [Value.agg.injEq,Array.mk.injEq,List.cons.injEq,Value.slice.injEq,Value.int.injEq,cJ,cK] at ev;obtain ⟨⟨rfl,rfl⟩,⟨rfl,rfl⟩,⟨rfl,rfl⟩,⟨rfl,rfl⟩,⟨rfl,rfl⟩,⟨rfl,rfl⟩,rfl,rfl⟩:=ev;refine Qu x s1 s2 ?_;exact AF
 rw [aH rfl];have hsz:=Aav (Xe (line:=line) hg);refine go ?_;refine Be (As3 x line g6 z.z.a1 z.z.c1 z.z.a2 z.z.c2 z.z.a3 z.z.c3 z.z.a4 z.z.c4 z.z.a5 z.z.c5 z.z.a6 z.z.c6 z.z.a7 z.z.c7 _ FT hg hl) fun u _=>?_;refine go ?_;refine Xw (x:=(Rh x line).1.Bt) ?_;rintro x1 w1 K1 x2 w2 K2 x3 w3 K3 x4 w4 K4 x5 w5 K5 x6 w6 K6 x7 w7 K7 ev - - - - - - -;simp only [Value.agg.injEq,Array.mk.injEq,List.cons.injEq,Value.slice.injEq,Value.int.injEq,cJ,cK] at ev;obtain ⟨⟨rfl,rfl⟩,⟨rfl,rfl⟩,⟨rfl,rfl⟩,⟨rfl,rfl⟩,⟨rfl,rfl⟩,⟨rfl,rfl⟩,rfl,rfl⟩:=ev
 refine Qu (Rh x line).1 FC FC ?_;exact AF
structure L28 where
 g:Nat
 a:aj
 c:Nat
 F:aq
structure L2S where
 k:Nat
 a:aj
 c:Nat
 F:aq
theorem Axt (n:Dt) (v:Value) (F:aq) (hs:Pl n):Fn prog 66 [v] [.isv Oi v n F] [] (fun (_:Ud)=>True) (fun z=>.agg z.cs.toArray) (fun z=>[.isv Oi (.agg z.cs.toArray) n z.F]):=by
 have hs1:=hs.t;have hs2:=hs.i;have hs3:=hs.h;have hs4:=hs.e;have hs5:=hs.rl;have hs6:=hs.d;have hs7:=hs.u;refine enter func66 rfl ntmps66 fun w0=>?_;refine Fb ?_;rintro a1 c1 F1 a2 c2 F2 a3 c3 F3 a4 c4 F4 a5 c5 F5 a6 c6 F6 a7 c7 F7 rfl l1 l2 l3 l4 l5 l6 l7;refine go ?_;intros;refine Du [1,2] [0,1,2,3,4,5,6,7,8,9] (fun w:L28=>[(3,Gc w.g 0 0)]) (fun w=>[.row w.g 29 0 [] [aa n.Ab.Aa.Am,aa n.Ab.Aa.size,ab w.a n.Ab.Aa.Ak.length w.c] [],.ow A8 9 (ab w.a n.Ab.Aa.Ak.length w.c) n.Ab.Aa.Ak w.F]) (fun _=>True) ?_ fun w _=>?_
 ·skip
  refine Ar [1] [] ?_;refine C8 0 1 2 3 ?_;refine C8 4 5 6 7 ?_;refine C8 9 10 11 12 ?_;refine dM 8 15 ?_ ?_
  ·apply Kj;rfl;intro _;refine C1 A8 ?_;refine dk ?_;refine dM 13 15 ?_ ?_
   ·refine Nm (E:=A8) (xs:=[]) Dz Hv fun a9 c9 F9=>?_;rw [aZ];refine dk ?_;refine dt 14 ?_;refine dN 15 ?_;apply Ci;rfl;intro _;refine dk ?_;refine dN 16 ?_;refine oS ?_;refine dk ?_;refine dd ?_;refine Bh (⟨_,a9,c9,F9⟩:L28) trivial
   ·apply Ci;rfl;intro _;exact CJ
  ·apply Ci;rfl;intro _;refine dk ?_;refine dN 8 ?_;apply Kj;rfl;intro _;refine C1 A8 ?_;exact CJ
 refine go ?_;refine cn (fun w2 st=>Yp _ n.Ap.Ad F1 w2 (st.get (p:=.sl _ _ _ _) FA).2 EV) fun b1 d1 G1=>?_;refine go ?_;intros;rename_i g4;refine Ar [2,5] [] ?_;refine C8 0 1 2 3 ?_;refine C8 4 5 6 8 ?_;refine Dg 9 10 ?_;refine dN 7 ?_;apply Kj;rfl;intro _;refine C1 Bx ?_;refine dk ?_;refine dN 11 ?_;refine Nm (E:=Bx) (xs:=[]) I0 Kv fun b3 d3 G3=>?_;rw [aZ];refine dk ?_;refine Dg 12 13 ?_;refine dN 14 ?_;refine oS ?_;refine dk ?_;refine dd ?_;refine Cj Ch 122 ?_;refine go ?_
 refine Ca [1,2,4] (fun z:L2S=>[(5,aa (z.k:Nat))]) (fun z=>[.row g4 37 0 [] [ab b1 n.Ap.Ad.length d1,aa n.Ab.Aa.Am,aa n.Ab.Aa.size,ab w.a n.Ab.Aa.Ak.length w.c,aa n.Ab.Ai,aa n.Ab.quiet,ab b3 n.Ab.holds.length d3,.slice z.a (n.Af.take z.k).length z.c,ab none 0 0,ab none 0 0,ab none 0 0] [],.ow Ch 122 (.slice z.a (n.Af.take z.k).length z.c) (n.Af.take z.k) z.F]) (fun z=>z.k<=n.Af.length) (fun z=>n.Af.length - z.k) ⟨0,none,0,[]⟩ (aE _) fun z hz=>?_;obtain ⟨k,za,zc,zF⟩:=z;dsimp only at hz ⊢
 have t4:(n.Af.take k).length<=n.Af.length:=GA
 refine go ?_;refine A1 rfl (fun h1=>?_) (fun h1=>?_)
 ·have hk3:k < n.Af.length:=EV
  refine N3 (xs:=n.Af) k ?_;rintro hi4 b4 o4 a8 c8 F8 e4 l8;rw [e4];refine Ex n.Af[k] ?_;refine Ih ?_;intros;refine Ar [1,3,10] [11] ?_;refine C8 0 1 2 3 ?_;refine Dg 4 5 ?_;refine dt 6 ?_;refine dN 7 ?_;refine oC ?_;refine cv (fun w2 st=>Xq _ n.Af[k] F8 w2 (st.get (p:=.isv _ _ _ _) FA) (by have:=hs.e1 _ (aB hk3);omega) (fun x hx=>by have:=hs.e2 _ (aB hk3) x hx;omega)) fun v9 F9=>?_;refine H8 (x:=n.Af[k]) ?_;rintro a9 c9 F10 rfl l9;refine Gt n.Af[k] ?_;refine dk ?_;refine dN 8 ?_;apply Iz;rfl;rfl;rfl;rfl;exact Ir;exact Io;intro _;refine dk ?_
  refine dN 9 ?_;refine Ab7 R7 n.Af[k] rfl fun x4 d4 G4=>?_;refine dk ?_;refine dt 10 ?_;refine dN 11 ?_;refine oS ?_;refine N2 ?_;refine dd ?_;rw [<-aR hk3];refine go ?_;rw [show ((k:Nat):Int)+1=((k+1:Nat):Int) by omega];refine Cb ⟨k+1,x4,d4,G4⟩ hk3 (by show n.Af.length - (k+1) < n.Af.length - k;omega)
 rw [show n.Af.take k=n.Af from aW EV];generalize za=y4;generalize zc=v4;generalize zF=V4;refine Cj B9 76 ?_;refine go ?_
 refine Ca [1,2,4] (fun z:L2S=>[(6,aa (z.k:Nat))]) (fun z=>[.row g4 37 0 [] [ab b1 n.Ap.Ad.length d1,aa n.Ab.Aa.Am,aa n.Ab.Aa.size,ab w.a n.Ab.Aa.Ak.length w.c,aa n.Ab.Ai,aa n.Ab.quiet,ab b3 n.Ab.holds.length d3,ab y4 n.Af.length v4,.slice z.a (n.Ac.take z.k).length z.c,ab none 0 0,ab none 0 0] [],.ow B9 76 (.slice z.a (n.Ac.take z.k).length z.c) (n.Ac.take z.k) z.F]) (fun z=>z.k<=n.Ac.length) (fun z=>n.Ac.length - z.k) ⟨0,none,0,[]⟩ (aE _) fun z hz=>?_;obtain ⟨k,za,zc,zF⟩:=z;dsimp only at hz ⊢
 have t4:(n.Ac.take k).length<=n.Ac.length:=GA
 refine go ?_;refine A1 rfl (fun h1=>?_) (fun h1=>?_)
 ·have hk3:k < n.Ac.length:=EV
  refine Jc (xs:=n.Ac) k ?_;rintro hi5 b5 o5 a11 c11 F11 a12 c12 F12 e5 l11 l12;rw [e5];refine Dy n.Ac[k] ?_;refine Ih ?_;intros;refine Ar [1,4,12] [11] ?_;refine C8 0 1 2 3 ?_;refine Dg 4 5 ?_;refine dt 6 ?_;refine dN 7 ?_;refine oC ?_;refine Be (Tc n.Ac[k] _ _ (by have:=hs.r _ (aB hk3);omega) (by have:=hs.r _ (aB hk3);omega)) fun s9 _=>?_;refine Is (x:=n.Ac[k]) ?_;rintro a9 c9 G9 a10 c10 G10 e9 l9 l10;rw [e9];refine Kn n.Ac[k] ?_;refine dk ?_;refine dN 8 ?_;apply Iz;rfl;rfl;rfl;rfl;exact Ir;exact Io;intro _;refine dk ?_;refine dN 9 ?_
  refine Ab7 Qw n.Ac[k] rfl fun x4 d4 G4=>?_;refine dk ?_;refine dt 10 ?_;refine dN 11 ?_;refine oS ?_;refine N2 ?_;refine dd ?_;rw [<-aR hk3];refine go ?_;rw [show ((k:Nat):Int)+1=((k+1:Nat):Int) by omega];refine Cb ⟨k+1,x4,d4,G4⟩ hk3 (by show n.Ac.length - (k+1) < n.Ac.length - k;omega)
 rw [show n.Ac.take k=n.Ac from aW EV];generalize za=y5;generalize zc=v5;generalize zF=V5;refine Cj (Kl Al 141) 125 ?_;refine go ?_
 refine Ca [1,2,4] (fun z:L2S=>[(7,aa (z.k:Nat))]) (fun z=>[.row g4 37 0 [] [ab b1 n.Ap.Ad.length d1,aa n.Ab.Aa.Am,aa n.Ab.Aa.size,ab w.a n.Ab.Aa.Ak.length w.c,aa n.Ab.Ai,aa n.Ab.quiet,ab b3 n.Ab.holds.length d3,ab y4 n.Af.length v4,ab y5 n.Ac.length v5,.slice z.a (n.down.take z.k).length z.c,ab none 0 0] [],.ow (Kl Al 141) 125 (.slice z.a (n.down.take z.k).length z.c) (n.down.take z.k) z.F]) (fun z=>z.k<=n.down.length) (fun z=>n.down.length - z.k) ⟨0,none,0,[]⟩ (aE _) fun z hz=>?_;obtain ⟨k,za,zc,zF⟩:=z;dsimp only at hz ⊢
 have t4:(n.down.take k).length<=n.down.length:=GA
 refine go ?_;refine A1 rfl (fun h1=>?_) (fun h1=>?_)
 ·have hk3:k < n.down.length:=EV
  have hq9:=hs.dq _ (aB hk3);refine Mf (E:=Al) (hz:=EW) (xs:=n.down) k ?_;rintro hi6 b6 o6 a13 c13 F13 e6 l13;rw [e6];refine Ih ?_;intros;refine Ar [0,2,11] [12] ?_;refine C8 0 1 3 4 ?_;refine Dg 5 6 ?_;refine dt 7 ?_;refine dN 2 ?_;apply Kj;rfl;intro _;refine C1 Al ?_;refine dk ?_;refine dN 8 ?_;refine Nm (E:=Al) (xs:=[]) Ho Jp fun a9 c9 F9=>?_;rw [aZ];refine Ko n.down[k] ?_;refine dk ?_;refine dN 9 ?_;apply Iz;rfl;rfl;rfl;rfl;exact Ir;exact Io;intro _;refine dk ?_;refine dN 10 ?_;refine Ab7 (U0) n.down[k] rfl fun x4 d4 G4=>?_;refine dk ?_;refine dt 11 ?_
  refine dN 12 ?_;refine oS ?_;refine N2 ?_;refine dd ?_;rw [<-aR hk3];refine go ?_;rw [show ((k:Nat):Int)+1=((k+1:Nat):Int) by omega];refine Cb ⟨k+1,x4,d4,G4⟩ hk3 (by show n.down.length - (k+1) < n.down.length - k;omega)
 rw [show n.down.take k=n.down from aW EV];generalize za=y6;generalize zc=v6;generalize zF=V6;refine Cj (Kl Al 141) 125 ?_;refine go ?_
 refine Ca [1,2,4] (fun z:L2S=>[(8,aa (z.k:Nat))]) (fun z=>[.row g4 37 0 [] [ab b1 n.Ap.Ad.length d1,aa n.Ab.Aa.Am,aa n.Ab.Aa.size,ab w.a n.Ab.Aa.Ak.length w.c,aa n.Ab.Ai,aa n.Ab.quiet,ab b3 n.Ab.holds.length d3,ab y4 n.Af.length v4,ab y5 n.Ac.length v5,ab y6 n.down.length v6,.slice z.a (n.up.take z.k).length z.c] [],.ow (Kl Al 141) 125 (.slice z.a (n.up.take z.k).length z.c) (n.up.take z.k) z.F]) (fun z=>z.k<=n.up.length) (fun z=>n.up.length - z.k) ⟨0,none,0,[]⟩ (aE _) fun z hz=>?_;obtain ⟨k,za,zc,zF⟩:=z;dsimp only at hz ⊢
 have t4:(n.up.take k).length<=n.up.length:=GA
 refine go ?_;refine A1 rfl (fun h1=>?_) (fun h1=>?_)
 ·have hk3:k < n.up.length:=EV
  have hq9:=hs.uq _ (aB hk3);refine Mf (E:=Al) (hz:=EW) (xs:=n.up) k ?_;rintro hi6 b6 o6 a13 c13 F13 e6 l13;rw [e6];refine Ih ?_;intros;refine Ar [0,2,12] [12] ?_;refine C8 0 1 3 4 ?_;refine Dg 5 6 ?_;refine dt 7 ?_;refine dN 2 ?_;apply Kj;rfl;intro _;refine C1 Al ?_;refine dk ?_;refine dN 8 ?_;refine Nm (E:=Al) (xs:=[]) Ho Jp fun a9 c9 F9=>?_;rw [aZ];refine Ko n.up[k] ?_;refine dk ?_;refine dN 9 ?_;apply Iz;rfl;rfl;rfl;rfl;exact Ir;exact Io;intro _;refine dk ?_;refine dN 10 ?_;refine Ab7 (U0) n.up[k] rfl fun x4 d4 G4=>?_;refine dk ?_;refine dt 11 ?_
  refine dN 12 ?_;refine oS ?_;refine N2 ?_;refine dd ?_;rw [<-aR hk3];refine go ?_;rw [show ((k:Nat):Int)+1=((k+1:Nat):Int) by omega];refine Cb ⟨k+1,x4,d4,G4⟩ hk3 (by show n.up.length - (k+1) < n.up.length - k;omega)
 rw [show n.up.take k=n.up from aW EV];generalize za=y7;generalize zc=v7;generalize zF=V7;refine Qd n ?_;refine go ?_;refine Sg Ye fun F9=>?_;exact AF
theorem Am6 (x:Cu) (v:Value) (F:aq) (hs:Pl x.Bt):Fn prog 38 [v] [.isv Dw v x F] [] (fun (_:Ud)=>True) (fun z=>.agg z.cs.toArray) (fun z=>[.isv Dw (.agg z.cs.toArray) x z.F]):=by
 refine enter func38 rfl ntmps38 fun w0=>?_;refine Cc ?_;rintro a1 c1 F1 a2 c2 F2 a3 c3 F3 a4 c4 F4 a5 c5 F5 a6 c6 F6 a7 c7 F7 rfl s1 s2 l1 l2 l3 l4 l5 l6 l7;refine E5 x.Bt (a1:=a1) (a2:=a2) (a3:=a3) (a4:=a4) (a5:=a5) (a6:=a6) (a7:=a7) ?_;refine Ih ?_;intros;refine Ar [1] [6] ?_;refine C8 0 1 3 4 ?_;refine dN 2 ?_;refine oC ?_;refine Be (Axt x.Bt _ _ hs) fun z _=>?_;obtain ⟨cs,zF⟩:=z;dsimp only;refine Fb (x:=x.Bt) (v:=.agg cs.toArray) ?_;rintro b1 d1 G1 b2 d2 G2 b3 d3 G3 b4 d4 G4 b5 d5 G5 b6 d6 G6 b7 d7 G7 ev - - - - - - -;obtain rfl:=O3 ev;clear ev;refine dk ?_;refine dt 5 ?_;refine dN 6 ?_
 refine oS ?_;refine N2 ?_;refine dd ?_;refine go ?_;refine Cp x s1 s2 (a1:=b1) (a2:=b2) (a3:=b3) (a4:=b4) (a5:=b5) (a6:=b6) (a7:=b7) ?_;exact AF
end Go.Proofs.YtkoldibamfjghaaGreatDoor
namespace Go.Proofs.YtkoldibamfjghaaGreatDoor

open Go.RowKit
end Go.Proofs.YtkoldibamfjghaaGreatDoor
namespace Go.Proofs.YtkoldibamfjghaaGreatDoor
open Go.RowKit
structure DqS where
 x:NE
 b:Bool
 cs:am
 F:aq
 a:aj
 c:Nat
 Fe:aq
structure DqK where
 k:Nat
 cs:am
 F:aq
 a:aj
 c:Nat
 Fe:aq
theorem Ait (w:World):∀xs:ar,Cw Bb w (xs.map (Value.int .i64)) xs []
 | []=>⟨rfl,rfl⟩
 | x::r=>⟨[.int .i64 x],r.map (Value.int .i64),[],[],rfl,rfl,⟨rfl,rfl⟩,Ait w r⟩
theorem An3 {n:Dt} {s:Jh} (e:Bl n s=none):Bi n s=(Sh,[],false):=by
 unfold Bi
 split
 ·rw [e]
 ·rfl
theorem An4 {n:Dt} {s:Jh} {r:NE} (g1:At n=true) (g2:Do s=true) (e:Bl n s=some r):Bi n s=(r.1,r.2,true):=by unfold Bi;rw [g1,g2,e];rfl
theorem Apx (n:Dt) (v:Value) (F FT:aq) (hg:At n=true):Fn prog 131 [v] [.isv Oi v n F,Gk FT] [] (fun (_:StZ)=>True) (fun z=>.tuple #[.agg z.cs.toArray,.slice z.a (Qf n).2.length z.c]) (fun z=>[.isv Oi (.agg z.cs.toArray) (Qf n).1 z.F,.ow A8 9 (.slice z.a (Qf n).2.length z.c) (Qf n).2 z.Fe]):=by
 have hwn:=Bad hg;refine enter func131 rfl ntmps131 fun w0=>?_;refine Fb ?_;rintro a1 c1 F1 a2 c2 F2 a3 c3 F3 a4 c4 F4 a5 c5 F5 a6 c6 F6 a7 c7 F7 rfl l1 l2 l3 l4 l5 l6 l7;refine go ?_;intros;refine Be (Am5 n _ F hg) fun z _=>?_;obtain ⟨w,y⟩:=z;dsimp only;refine Av (E:=Bb) (xs:=n.Ap.Ad) fun Ft=>?_;refine Ae4 Kh (xs:=n.Af) fun He=>?_;refine Ae4 Qy (xs:=n.Ac) fun Hr=>?_;refine Ae4 (P2 (Mu.refl Al) EW _) (xs:=n.down) fun Hd=>?_;refine Ae4 (P2 (Mu.refl Al) EW _) (xs:=n.up) fun Hu=>?_;refine Gn (x:=n.Ab) ?_;rintro b2 d2 G2 b3 d3 G3 ev - -
 simp only [Value.agg.injEq,Array.mk.injEq,List.cons.injEq,Value.slice.injEq,cJ,cK] at ev;obtain ⟨⟨rfl,rfl⟩,rfl,rfl⟩:=ev;refine E5 n (a1:=w.a1) (c1:=w.c1) (a2:=w.s.a) (c2:=w.s.c) (a3:=w.s.a2) (c3:=w.s.c2) (a4:=y.a4) (c4:=y.c4) (a5:=y.a5) (c5:=y.c5) (a6:=y.a6) (c6:=y.c6) (a7:=y.a7) (c7:=y.c7) ?_;refine go ?_;intros;rename_i g4 g5;refine C1 A8 ?_;refine go ?_
 refine Ca [2,4] (fun s:DqS=>[(5,ab s.a s.x.2.length s.c),(6,.bool s.b)]) (fun s=>[.row g4 37 0 [] s.cs [],.isv Oi (.agg s.cs.toArray) s.x.1 s.F,.ow A8 9 (ab s.a s.x.2.length s.c) s.x.2 s.Fe]) (fun s=>Vb (n,[]) s.x/\(if s.b then drE s.x else s.x)=Qf n) (fun s=>if s.b then wN s.x.1+1 else 0) ⟨(n,[]),true,_,_,_,_,_⟩ ⟨.refl hg,rfl⟩ fun s hs0=>?_;obtain ⟨x,b,cs,Fx,ea,ec,eF⟩:=s;obtain ⟨fx,hR⟩:=hs0;dsimp only at fx hR ⊢;refine Fb (x:=x.1) ?_;rintro b1 d1 G1 b2 d2 G2 b3 d3 G3 b4 d4 G4 b5 d5 G5 b6 d6 G6 b7 d7 G7 ev - - - - - - -;obtain rfl:=O3 ev;clear ev;cases b
 ·rw [aC EW] at hR;rw [hR];refine go ?_;refine ret (⟨_,Fx,ea,ec,eF⟩:StZ) trivial rfl
 rw [aH rfl] at hR;have hG:=Ax.1 fx.g;have h8:=Hi hG.t;have hn8:=h8.n1;have hn2:=h8.n0;have hev:=fx.e;simp only [aY] at hev;refine go ?_;refine Ca [2,4] (fun s:DqK=>[(5,.slice s.a (Hp x s.k).2.length s.c),(6,.bool (Qj x s.k)),(7,aa ((s.k+1:Nat):Int))]) (fun s=>[.row g4 37 0 [] s.cs [],.isv Oi (.agg s.cs.toArray) (Hp x s.k).1 s.F,.ow A8 9 (.slice s.a (Hp x s.k).2.length s.c) (Hp x s.k).2 s.Fe]) (fun s=>s.k+1<=x.1.Ap.Ad.length) (fun s=>x.1.Ap.Ad.length - s.k) ⟨0,_,_,_,_,_⟩ (by show 0+1<=_;omega) fun s hs0=>?_;obtain ⟨k,cs,Fx,ya,yc,yF⟩:=s;dsimp only at hs0 ⊢
 have rf:=O6 fx.g k hs0;have fX:=fx.trans rf.1;have hXt:(Hp x k).1.Ap.Ad.length=x.1.Ap.Ad.length:=by rw [rf.1.t]
 generalize hX:Hp x k=X at fX hXt ⊢;generalize hM:Qj x k=M;refine Fb (x:=X.1) ?_;rintro b1 d1 G1 b2 d2 G2 b3 d3 G3 b4 d4 G4 b5 d5 G5 b6 d6 G6 b7 d7 G7 ev - - - - - - -;obtain rfl:=O3 ev;clear ev;refine go ?_;refine A1 rfl (fun h1=>?_) (fun h1=>?_)
 rotate_left
 ·have hk:x.1.Ap.Ad.length - 1=k:=EV
  have hXr:Vz x=X:=by rw [<-hX,<-hk];rfl
  have hmi:=Agj fx.g;rw [hk,hM] at hmi;refine go ?_;refine Cb ⟨X,M,_,_,ya,yc,yF⟩ ⟨fX,?_⟩ ?_
  ·cases M
   ·have hz:=hmi.1 rfl;show X=Qf n;rw [<-hR,Aax hz,<-hXr,Aql fx.g hz]
   ·have hz:¬X0 x.1=0:=fun h=>by cases hmi.2 h
    show drE X=Qf n;rw [<-hR,Afp fx.g hz,hXr]
  ·cases M
   ·show 0 < wN x.1+1;omega
   ·have hz:¬X0 x.1=0:=fun h=>by cases hmi.2 h
    have:=(Mr fx.g).2 hz;rw [hXr] at this;show wN X.1+1 < wN x.1+1;omega
 have hj:k+1 < x.1.Ap.Ad.length:=EV
 refine go ?_;intros;refine Eh (E:=Bb) (xs:=[2,5]) (fun w=>Ait w _) ?_ EW;refine Av (E:=Bb) (xs:=[2,5]) fun Fk=>?_;refine go ?_;refine Ca [2,4,7,25,26] (fun s:DqK=>[(5,.slice s.a (Ta X (k+1) s.k).2.length s.c),(6,.bool (Ads M X (k+1) s.k)),(27,aa (s.k:Nat))]) (fun s=>[.row g4 37 0 [] s.cs [],.isv Oi (.agg s.cs.toArray) (Ta X (k+1) s.k).1 s.F,.ow A8 9 (.slice s.a (Ta X (k+1) s.k).2.length s.c) (Ta X (k+1) s.k).2 s.Fe]) (fun s=>s.k<=2) (fun s=>2 - s.k) ⟨0,_,_,_,_,_⟩ (aE _) fun s hs1=>?_;obtain ⟨m,cs,Fx,ya,yc,yF⟩:=s;dsimp only at hs1 ⊢
 have fY:=fX.trans (Ati fX.g (i:=k+1) EV EV m hs1);have hYe:=fY.e;simp only [aY] at hYe;generalize hY:Ta X (k+1) m=Y at fY hYe ⊢;generalize hB:Ads M X (k+1) m=B;refine Fb (x:=Y.1) ?_;rintro b1 d1 G1 b2 d2 G2 b3 d3 G3 b4 d4 G4 b5 d5 G5 b6 d6 G6 b7 d7 G7 ev - - - - - - -;obtain rfl:=O3 ev;clear ev;refine go ?_;refine A1 rfl (fun h2=>?_) (fun h2=>?_)
 ·have hm:m < 2:=EV
  have ok:Do (kst m (k+1))=true:=Bh4 EV EV hm;refine In (xs:=[2,5]) m ?_;rintro hi b9 o9 e9;rw [e9,show ([2,5]:ar)[m]=(kst m (k+1)).Cq by rcases (show m=0\/m=1 by omega) with rfl|rfl <;> rfl];have gY:=fY.g;refine go ?_;refine Be (Uw Y.1 (kst m (k+1)) _ _ FT (aE _) gY ok) fun z _=>?_;cases e:Bl Y.1 (kst m (k+1)) with
  | none =>
   rw [An3 e];have hnY:Ta X (k+1) (m+1)=Y:=by show My (Ta X (k+1) m) (kst m (k+1))=Y;rw [hY];exact Jy e
   have hnB:Ads M X (k+1) (m+1)=B:=by show (Ads M X (k+1) m || (Bl (Ta X (k+1) m).1 (kst m (k+1))).isSome)=B;rw [hY,hB,e];exact Bool.or_false B
   refine Fb (x:=Sh) ?_;rintro f1 t1 G1 f2 t2 G2 f3 t3 G3 f4 t4 G4 f5 t5 G5 f6 t6 G6 f7 t7 G7 ez - - - - - - -;rw [ez];refine go ?_;intros;refine Cb ⟨m+1,_,_,ya,yc,yF⟩ (by show m+1<=2;omega) (by show 2 - (m+1) < 2 - m;omega) (by dsimp only;rw [hnY,hnB];exact frE) (by dsimp only;rw [hnY];exact hsE)
  | some r =>
   rw [An4 gY ok e];have hnY:Ta X (k+1) (m+1)=(r.1,Y.2++r.2):=by show My (Ta X (k+1) m) (kst m (k+1))=_;rw [hY];exact Yz e
   have hnB:Ads M X (k+1) (m+1)=true:=by show (Ads M X (k+1) m || (Bl (Ta X (k+1) m).1 (kst m (k+1))).isSome)=true;rw [hY,hB,e];exact gD B
   have hr:=Aod gY ok e;refine Fb (x:=r.1) ?_;rintro f1 t1 G1 f2 t2 G2 f3 t3 G3 f4 t4 G4 f5 t5 G5 f6 t6 G6 f7 t7 G7 ez - - - - - - -;rw [ez];refine Av (E:=A8) (xs:=r.2) fun F8=>?_;refine go ?_;intros;apply wO;refine Nm (E:=A8) (xs:=Y.2) (ys:=r.2) Dz Hv fun a9 c9 F9=>?_;refine go ?_;refine Cb ⟨m+1,_,z.F,a9,c9,F9⟩ (by show m+1<=2;omega) (by show 2 - (m+1) < 2 - m;omega) (by dsimp only;rw [hnY,hnB];exact frE) (by dsimp only;rw [hnY];exact hsE)
 ·obtain rfl:m=2:=EV
  refine go ?_;refine Cb ⟨k+1,_,_,ya,yc,yF⟩ JB (by show x.1.Ap.Ad.length - (k+1) < x.1.Ap.Ad.length - k;omega) (by dsimp only;rw [Anh,hX,hM,hB,Abj,hX,hY];exact frE) (by dsimp only;rw [Abj,hX,hY];exact hsE)
theorem Ahb (n:Dt) (v:Value) (F:aq):FV 135 [v] [.isv Oi v n F] (.tuple #[.bool (Gg n).1,.bool (Gg n).2]):=by
 refine enter func135 rfl ntmps135 fun w0=>?_;refine Fb ?_;rintro a1 c1 F1 a2 c2 F2 a3 c3 F3 a4 c4 F4 a5 c5 F5 a6 c6 F6 a7 c7 F7 rfl l1 l2 l3 l4 l5 l6 l7;refine go ?_;intros;refine Be (Acr n _ F) fun _ _=>?_;cases g:At n
 ·refine go ?_;refine ret () trivial ?_;unfold Gg;rw [g];rfl
 obtain ⟨-,e2,e3,e4⟩:=Hx g;obtain ⟨q2,q8,qn,qu,qe,qt⟩:=M9 g;have hG:=Ax.1 g;obtain ⟨-,qr, -, -⟩:=Bk.1 hG.l;have hS1:=(J9 hG.s).l;have hW:=Dq.1 (Eo.1 hG.s).1;refine Ih ?_;intros;refine Jw n.Ap (a1:=a1) ?_;refine go ?_;refine Dk [1,2,3] (fun k:Nat=>[(4,aa (k:Nat))]) (fun k=>1<=k/\k<=n.Ap.Ad.length/\∀j,1<=j->j < k->(n.down.getD j []).length=0/\(n.up.getD j []).length=0/\(Es n.Ap.Ad ((j:Nat):Int)=true->Aci n j=true)) (fun k=>n.Ap.Ad.length - k) 1 ⟨aK _,EV,fun j a b=>by omega⟩ fun k hk=>?_;obtain ⟨hk1,hk2,hal⟩:=hk;refine go ?_;refine A1 rfl (fun h3=>?_) (fun h3=>?_)
 ·have hk3:k < n.Ap.Ad.length:=EV
  have h5:k < n.Ac.length:=EV
  have hd5:k < n.down.length:=EV
  have hu5:k < n.up.length:=EV
  have m8:=(C5 (e3 _ (aB hd5))).1;have m9:=(C5 (e4 _ (aB hu5))).1;have gd:(n.down.getD k [])=n.down[k]:=Pq hd5 _;have gu:(n.up.getD k [])=n.up[k]:=Pq hu5 _;refine Mf (E:=Al) (hz:=EW) (xs:=n.down) k ?_;rintro hi1 g1 o1 a8 c8 F8 ea l8;refine Mf (E:=Al) (hz:=EW) (xs:=n.up) k ?_;rintro hi2 g2 o2 a9 c9 F9 eb l9;rw [ea,eb];refine Ih ?_;intros;refine Ar [0,2,5] [] ?_;refine C8 0 1 2 3 ?_;refine C8 4 5 6 7 ?_;refine C8 8 9 10 11 ?_;refine Dg 12 13 ?_;refine dd ?_;refine go ?_;refine A1 rfl (fun h4=>?_) (fun h4=>?_)
  ·refine go ?_;refine ret () trivial ?_;unfold Gg;rw [g];rw [aH rfl,Azj (fun h0=>by
    have hd:=Aa3 (l:=n.down) (i:=k) JO;have hu:=Aa3 (l:=n.up) (i:=k) JO;rw [gd] at hd;rw [gu] at hu;omega)]
   rfl
  refine Jc (xs:=n.Ac) k ?_;rintro h5b b5 o5 a10 c10 F10 a11 c11 F11 e5 l10 l11;rw [e5];have hr:=Ej.1 (e2 _ (aB h5));have hr1:=(Ks hr.w).1;have hr2:=(Di.1 hr.q).2.1;cases hlf:Es n.Ap.Ad ((k:Nat):Int)
  ·refine Ih ?_;intros;refine Ar [0,9] [] ?_;refine Dg 0 1 ?_;refine dt 2 ?_;refine dN 3 ?_;refine oC ?_;refine Be (N4 n.Ap _ _ F1 (Hi hG.t) EV) fun _ _=>?_;rw [hlf];refine dk ?_;refine dt 4 ?_;refine ds 5 ?_;refine ds 6 ?_;refine ds 7 ?_;refine ds 8 ?_;refine dsu 9 ?_;refine dsu 10 ?_;refine dsu 11 ?_;refine dsu 12 ?_;refine dsu 13 ?_;refine dsu 14 ?_;refine dsu 15 ?_;refine dsu 16 ?_;refine dsu 17 ?_;refine ds 18 ?_;refine ds 19 ?_;refine dsu 20 ?_;refine dsu 21 ?_;refine dsu 22 ?_;refine dsu 23 ?_;refine dsu 24 ?_;refine dsu 25 ?_;refine dsu 26 ?_;refine dsu 27 ?_;refine ds 28 ?_
   refine dt 29 ?_;refine dd ?_;refine go ?_;rw [show ((k:Nat):Int)+1=((k+1:Nat):Int) by omega];refine Cb (k+1) ⟨EV,hk3,fun j hj0 hj=>?_⟩ EV;by_cases hjk:j=k
   ·subst hjk;exact ⟨by rw [gd];omega,by rw [gu];omega,fun h=>absurd h JP⟩
   ·exact hal j hj0 EV
  cases hst0:n.Ac[k].Bd
  ·have hst:Aer n.Ac[k]=false:=by unfold Aer;rw [hst0];rfl
   try rw [hst0]
   refine Ih ?_;intros;refine Ar [0,9] [] ?_;refine Dg 0 1 ?_;refine dt 2 ?_;refine dN 3 ?_;refine oC ?_;refine Be (N4 n.Ap _ _ F1 (Hi hG.t) EV) fun _ _=>?_;rw [hlf];refine dk ?_;refine dt 4 ?_;refine Dd 5 ?_;refine Dd 6 ?_;refine Dd 7 ?_;refine Dd 8 ?_;refine ds 9 ?_;refine ds 10 ?_;refine ds 11 ?_;refine ds 12 ?_;refine ds 13 ?_;refine ds 14 ?_;refine ds 15 ?_;refine ds 16 ?_;refine ds 17 ?_;refine Dd 18 ?_;refine Dd 19 ?_;refine ds 20 ?_;refine ds 21 ?_;refine ds 22 ?_;refine ds 23 ?_;refine ds 24 ?_;refine ds 25 ?_;refine ds 26 ?_;refine ds 27 ?_;refine Dd 28 ?_;refine dt 29 ?_
   exact DZ
  ·by_cases hz:n.Ac[k].An.length+n.Ac[k].Aa.Ao.length=0
   rotate_left
   ·have hst:Aer n.Ac[k]=false:=by
     unfold Aer;by_cases hz1:((n.Ac[k].An.length:Int)=0)
     ·rw [ay (show ¬((n.Ac[k].Aa.Ao.length:Int)=0) by omega),bZ]
     ·rw [ay hz1,bZ,cU]
    try rw [hst0]
    refine Ih ?_;intros;refine Ar [0,9] [] ?_;refine Dg 0 1 ?_;refine dt 2 ?_;refine dN 3 ?_;refine oC ?_;refine Be (N4 n.Ap _ _ F1 (Hi hG.t) EV) fun _ _=>?_;rw [hlf];refine dk ?_;refine dt 4 ?_;refine Dd 5 ?_;refine Dd 6 ?_;refine Dd 7 ?_;refine Dd 8 ?_;refine Dd 9 ?_;refine Dd 10 ?_;refine Dd 11 ?_;refine Dd 12 ?_;refine Dd 13 ?_;refine Dd 14 ?_;refine Dd 15 ?_;refine Dd 16 ?_;refine Dd 17 ?_;rw [show decide ((0:Int) < ((n.Ac[k].An.length:Int)+(n.Ac[k].Aa.Ao.length:Int)))=true from av EV];refine Dd 18 ?_;refine Dd 19 ?_;refine ds 20 ?_;refine ds 21 ?_
    refine ds 22 ?_;refine ds 23 ?_;refine ds 24 ?_;refine ds 25 ?_;refine ds 26 ?_;refine ds 27 ?_;refine Dd 28 ?_;refine dt 29 ?_;exact DZ
   ·have hst:Aer n.Ac[k]=true:=by
     unfold Aer;rw [hst0,av (show ((n.Ac[k].Aa.Ao.length:Int)=0) by omega),av (show ((n.Ac[k].An.length:Int)=0) by omega)];rfl
    try rw [hst0]
    refine Ih ?_;intros;refine Ar [0,9] [] ?_;refine Dg 0 1 ?_;refine dt 2 ?_;refine dN 3 ?_;refine oC ?_;refine Be (N4 n.Ap _ _ F1 (Hi hG.t) EV) fun _ _=>?_;rw [hlf];refine dk ?_;refine dt 4 ?_;refine Dd 5 ?_;refine Dd 6 ?_;refine Dd 7 ?_;refine Dd 8 ?_;refine Dd 9 ?_;refine Dd 10 ?_;refine Dd 11 ?_;refine Dd 12 ?_;refine Dd 13 ?_;refine Dd 14 ?_;refine Dd 15 ?_;refine Dd 16 ?_;refine Dd 17 ?_;rw [show decide ((0:Int) < ((n.Ac[k].An.length:Int)+(n.Ac[k].Aa.Ao.length:Int)))=false from ay EV];refine Dd 18 ?_;refine Dd 19 ?_;refine Dd 20 ?_;refine Dd 21 ?_
    refine Dd 22 ?_;refine Dd 23 ?_;refine Dd 24 ?_;refine Dd 25 ?_;refine d1g 26 ?_;apply On.h;refine oC ?_;refine cb (fun w s=>Td n.Ab.Aa.Am n.Ab.Aa.size _ n.Ab.Aa.Ak.length _ w hW.1.1 hW.1.2 EV) ?_;refine dk ?_;refine Dd 27 ?_;refine Dd 28 ?_;refine dt 29 ?_;refine dd ?_;refine go ?_;refine A1 rfl (fun h6=>?_) (fun h6=>?_)
    ·refine go ?_;refine ret () trivial ?_;unfold Gg;rw [g];rw [aH rfl,Ahf hk3 hlf (by unfold Aci;rw [Gp h5,ay h6,bZ])];rfl
    ·refine go ?_;rw [show ((k:Nat):Int)+1=((k+1:Nat):Int) by omega];refine Cb (k+1) ⟨EV,hk3,fun j hj0 hj=>?_⟩ EV;by_cases hjk:j=k
     ·subst hjk;exact ⟨by rw [gd];omega,by rw [gu];omega,fun h=>by unfold Aci;rw [Gp h5,hst,av (cX.1 h6)];rfl⟩
     ·exact hal j hj0 EV
 ·have hk3:k=n.Ap.Ad.length:=EV
  have hst:Y7 n=true:=by
   refine Aoe ?_ fun i hi hl=>?_
   ·have d0:=Abc g;have a1:qd n.down=0:=Ayn fun i hi=>by
     rw [<-Pq hi []];by_cases h0:i=0
     ·subst h0;exact d0.1
     ·exact (hal i EV EV).1
    have a2:qd n.up=0:=Ayn fun i hi=>by
     rw [<-Pq hi []];by_cases h0:i=0
     ·subst h0;exact d0.2
     ·exact (hal i EV EV).2.1
    unfold X0;omega
   ·by_cases h0:i=0
    ·subst h0;rw [Bcp (Hi hG.t)] at hl;cases hl
    ·exact (hal i EV EV).2.2 hl
  refine go ?_;refine ret () trivial ?_;unfold Gg;rw [g,aH rfl,hst];rfl
theorem Ah5 (x:A9) (v:Value) (F:aq):Fn prog 217 [v] [.isv Bz v x F] [] (fun (_:OwR)=>True) (fun s=>.tuple #[.slice s.a (E7 x).1.length s.c,.bool (E7 x).2]) (fun s=>[.ow Bb 3 (.slice s.a (E7 x).1.length s.c) (E7 x).1 s.F]):=by
 refine enter func217 rfl ntmps217 fun w0=>?_;refine Fj (v:=v) (x:=x) (F:=F) ?_;rintro a1 c1 F1 a2 c2 F2 rfl l1 l2;unfold maxLen at l1 l2;refine go ?_;intros;rename_i g0;refine Be (Ai8 x _ F) fun _ _=>?_;refine C1 Bb ?_;cases g1:By x
 ·rw [show E7 x=([],false) by unfold E7;rw [g1];rfl];exact BB
 have g5:=Ej.1 g1;have hq8:=(Di.1 g5.q).2.1;rw [show E7 x=(x.An.map (·.Ae),true) by unfold E7;rw [g1];rfl];refine go ?_;refine Ca [1,2,3] (fun s:AwS=>[(5,aa (s.i:Nat)),(4,.slice s.a ((x.An.take s.i).map (·.Ae)).length s.c)]) (fun s=>[.ow Bb 3 (.slice s.a ((x.An.take s.i).map (·.Ae)).length s.c) ((x.An.take s.i).map (·.Ae)) s.F]) (fun s=>s.i<=x.An.length) (fun s=>x.An.length - s.i) ⟨0,some ⟨g0,0,none⟩,0,[g0]⟩ (aE _) fun s hs=>?_;obtain ⟨i,a3,c3,F3⟩:=s;dsimp only at hs ⊢;have hl3:((x.An.take i).map (·.Ae)).length<=i:=FB
 refine go ?_;refine A1 rfl (fun h4=>?_) (fun h4=>?_)
 ·have hi:i < x.An.length:=EV
  have eo:(x.An.take (i+1)).map (·.Ae)=(x.An.take i).map (·.Ae)++[x.An[i].Ae]:=by rw [cy,aD hi,bB];rfl
  exact BZ
 have hi:i=x.An.length:=EV
 subst hi;rw [bm];exact BB
def rsC (x:Cu) (o:Option NR):Cu × au:=match o with
 | some r=>(⟨r.1,x.Im⟩,r.2)
 | none=>(x,⟨#[63]⟩)
theorem Ag1 {x:Cu} {r:Option au}:rsC x (P3 x.Bt r)=(x,r.getD ⟨#[63]⟩):=by cases r <;> rfl
theorem Beh {n:Dt} {s:Jh} {y:NE} (hg:At n=true) (hs:Do s=true) (e:Bl n s=some y):y.2.length<=900000000000/\∀e∈y.2,e.size<=100:=by
 have:=Arg hg hs;rw [e] at this;exact this
theorem Qh (x:Cu) (s:Jh) (b:Bool) (v:Value) (F FT:aq) (hg:At x.Bt=true) (hss:s.data.size<=maxLen) (hb:b=decide (s.Cq=2\/s.Cq=4)):Fn prog 70 [v,.agg #[aa s.Cq,aa s.node,af s.data],.bool b] [.isv Dw v x F,Gk FT] [] (fun (_:Ud)=>True) (fun u=>.tuple #[.agg u.cs.toArray,af (rsC x (Kb x.Bt s)).2]) (fun u=>[.isv Dw (.agg u.cs.toArray) (rsC x (Kb x.Bt s)).1 u.F]):=by
 refine enter func70 rfl ntmps70 fun w0=>?_;refine Cc ?_;rintro a1 c1 F1 a2 c2 F2 a3 c3 F3 a4 c4 F4 a5 c5 F5 a6 c6 F6 a7 c7 F7 rfl s1 s2 l1 l2 l3 l4 l5 l6 l7;refine E5 x.Bt (a1:=a1) (a2:=a2) (a3:=a3) (a4:=a4) (a5:=a5) (a6:=a6) (a7:=a7) ?_;refine go ?_;intros;refine Be (At3 s hss) fun _ _=>?_;cases hk:Do s
 ·have e:Kb x.Bt s=none:=by unfold Kb;rw [hk];rfl
  rw [e];exact DK
 refine go ?_;refine Be (Uw x.Bt s _ _ FT hss hg hk) fun z _=>?_;cases es:Bl x.Bt s with
 | none =>
  have e:Kb x.Bt s=none:=by unfold Kb;rw [hk,es];rfl
  rw [e,An3 es];refine Fb (x:=Sh) ?_;rintro f1 t1 G1 f2 t2 G2 f3 t3 G3 f4 t4 G4 f5 t5 G5 f6 t6 G6 f7 t7 G7 ez - - - - - - -;rw [ez];refine go ?_;intros;exact AF
 | some y =>
  have e:Kb x.Bt s=some (y.1,if s.Cq=2\/s.Cq=4 then Xd y.2 else bz wOk):=by unfold Kb;rw [hk,es];rfl
  have hE:=Beh hg hk es;rw [e,An4 hg hk es];obtain ⟨m,E⟩:=y;dsimp only at hE ⊢;refine Fb (x:=m) ?_;rintro f1 t1 G1 f2 t2 G2 f3 t3 G3 f4 t4 G4 f5 t5 G5 f6 t6 G6 f7 t7 G7 ez - - - - - - -;rw [ez];refine Av (E:=A8) (xs:=E) fun F8=>?_;refine go ?_;intros;refine Cp (⟨m,x.Im⟩:Cu) s1 s2 (a1:=f1) (c1:=t1) (a2:=f2) (c2:=t2) (a3:=f3) (c3:=t3) (a4:=f4) (c4:=t4) (a5:=f5) (c5:=t5) (a6:=f6) (c6:=t6) (a7:=f7) (c7:=t7) ?_;cases b
  ·rw [aC (by simpa using hb.symm)];exact DK
  rw [aH (by simpa using hb.symm)];exact BU
def Va (n:Dt) (line:au):Option NR :=
 if line.data.toList=Ahp then Kb n ⟨1,0,⟨#[]⟩⟩
 else if line.data.toList=Aj7 then Kb n ⟨4,0,⟨#[]⟩⟩
 else if line.data.toList=Wb then some ((Qf n).1,Xd (Qf n).2)
 else P3 n (Ku n line.data.toList)
theorem Baf {line:au} (h:(Gb line).length=1):Gb line=[line.data.toList]:=by
 unfold Gb at h ⊢;obtain ⟨r,hr,hi⟩:=Rg 32 line.data.toList;rw [hr,aU] at h;have hb:=hi.1 (bt.1 EV);exact U7 fun c hc e=>hb (e▸hc)
theorem Ay6 {n:Dt} {line:au} (h:(Gb line).length=1):Ou n line=Va n line:=by
 have hw:=Baf h;have h0:atW (Gb line) 0=line.data.toList:=by rw [hw];rfl
 unfold Va
 split
 ·rename_i e;exact Abm (by unfold I6;rw [h0];exact aH ⟨e,h⟩)
 ·rename_i e1
  split
  ·rename_i e;exact Abm (by unfold I6;rw [h0,aC (fun c=>e1 c.1),aC (fun c=>e1 c.1)];exact aH ⟨e,h⟩)
  ·rename_i e2;have hs:I6 (Gb line)=none:=by
    unfold I6;rw [h0,aC (fun c=>e1 c.1),aC (fun c=>e1 c.1),aC (fun c=>e2 c.1)];exact aH EV
   unfold Ou;rw [hs];dsimp only
   split
   ·rfl
   ·first|rfl|rw [aH h]
theorem At9 (x:Cu) (line:au) (v:Value) (F FT:aq) (hg:At x.Bt=true):Fn prog 69 [v,af line] [.isv Dw v x F,Gk FT] [] (fun (_:Ud)=>True) (fun u=>.tuple #[.agg u.cs.toArray,af (rsC x (Va x.Bt line)).2]) (fun u=>[.isv Dw (.agg u.cs.toArray) (rsC x (Va x.Bt line)).1 u.F]):=by
 refine enter func69 rfl ntmps69 fun w0=>?_;refine Cc ?_;rintro a1 c1 F1 a2 c2 F2 a3 c3 F3 a4 c4 F4 a5 c5 F5 a6 c6 F6 a7 c7 F7 rfl s1 s2 l1 l2 l3 l4 l5 l6 l7;refine E5 x.Bt (a1:=a1) (a2:=a2) (a3:=a3) (a4:=a4) (a5:=a5) (a6:=a6) (a7:=a7) ?_;refine go ?_;intros;refine A1 rfl (fun h1=>?_) (fun h1=>?_)
 ·rw [show Va x.Bt line=Kb x.Bt ⟨1,0,⟨#[]⟩⟩ by unfold Va;rw [aH (show line.data.toList=Ahp from Dx.1 h1)]];have hP:=fun v F=>Qh x ⟨1,0,⟨#[]⟩⟩ false v F FT hg (aE _) EW;generalize rsC x (Kb x.Bt ⟨1,0,⟨#[]⟩⟩)=R at hP ⊢;refine go ?_;refine Be (hP _ _) fun u _=>?_;refine Cc (x:=R.1) ?_;rintro f1 t1 G1 f2 t2 G2 f3 t3 G3 f4 t4 G4 f5 t5 G5 f6 t6 G6 f7 t7 G7 ez s3 s4 - - - - - - -;rw [ez];refine go ?_;refine Cp R.1 s3 s4 (a1:=f1) (c1:=t1) (a2:=f2) (c2:=t2) (a3:=f3) (c3:=t3) (a4:=f4) (c4:=t4) (a5:=f5) (c5:=t5) (a6:=f6) (c6:=t6) (a7:=f7) (c7:=t7) ?_
  exact AF
 refine go ?_;refine A1 rfl (fun h2=>?_) (fun h2=>?_)
 ·rw [show Va x.Bt line=Kb x.Bt ⟨4,0,⟨#[]⟩⟩ by unfold Va;rw [aC (show ¬line.data.toList=Ahp from fun e=>h1 (Dx.2 e)),aH (show line.data.toList=Aj7 from Dx.1 h2)]];have hP:=fun v F=>Qh x ⟨4,0,⟨#[]⟩⟩ true v F FT hg (aE _) EW;generalize rsC x (Kb x.Bt ⟨4,0,⟨#[]⟩⟩)=R at hP ⊢;refine go ?_;refine Be (hP _ _) fun u _=>?_;refine Cc (x:=R.1) ?_;rintro f1 t1 G1 f2 t2 G2 f3 t3 G3 f4 t4 G4 f5 t5 G5 f6 t6 G6 f7 t7 G7 ez s3 s4 - - - - - - -;rw [ez];refine go ?_
  exact BA
 refine go ?_;refine A1 rfl (fun h3=>?_) (fun h3=>?_)
 ·rw [show Va x.Bt line=some ((Qf x.Bt).1,Xd (Qf x.Bt).2) by unfold Va;rw [aC (show ¬line.data.toList=Ahp from fun e=>h1 (Dx.2 e)),aC (show ¬line.data.toList=Aj7 from fun e=>h2 (Dx.2 e)),aH (show line.data.toList=Wb from Dx.1 h3)]];have hP:=fun v F=>Apx x.Bt v F FT hg;have hE:(Qf x.Bt).2.length<=900000000000/\∀e∈(Qf x.Bt).2,e.size<=100:=⟨by have:=Ard hg;omega,fun e he=>by have:=(Yk (Bec hg e he)).2;omega⟩;generalize Qf x.Bt=y at hP hE ⊢;obtain ⟨m,E⟩:=y;dsimp only at hP hE ⊢;refine go ?_;refine Be (hP _ _) fun z _=>?_;refine Fb (x:=m) ?_
  rintro f1 t1 G1 f2 t2 G2 f3 t3 G3 f4 t4 G4 f5 t5 G5 f6 t6 G6 f7 t7 G7 ez - - - - - - -;rw [ez];refine Av (E:=A8) (xs:=E) fun F8=>?_;refine go ?_;intros;refine Cp (⟨m,x.Im⟩:Cu) s1 s2 (a1:=f1) (c1:=t1) (a2:=f2) (c2:=t2) (a3:=f3) (c3:=t3) (a4:=f4) (c4:=t4) (a5:=f5) (c5:=t5) (a6:=f6) (c6:=t6) (a7:=f7) (c7:=t7) ?_;exact BU
 have eW:Va x.Bt line=P3 x.Bt (Ku x.Bt line.data.toList):=by unfold Va;rw [aC (show ¬line.data.toList=Ahp from fun e=>h1 (Dx.2 e)),aC (show ¬line.data.toList=Aj7 from fun e=>h2 (Dx.2 e)),aC (show ¬line.data.toList=Wb from fun e=>h3 (Dx.2 e))]
 rw [eW,Ag1];obtain ⟨e1,e2,e3,e4⟩:=Hx hg;obtain ⟨q2,q8,qn,qu,qe,qt⟩:=M9 hg;have hG:=Ax.1 hg;have hS:=J9 hG.s;have hW:=Dq.1 (Eo.1 hG.s).1;have hS1:=hS.l;have hb1:=N5 (fun q hq=>(C5 (e3 q hq)).1) x.Bt.down.length;have hb2:=N5 (fun q hq=>(C5 (e4 q hq)).1) x.Bt.up.length;rw [bm] at hb1 hb2;have z1:=Aa8 (k:=qd x.Bt.down) EV;have z2:=Aa8 (k:=qd x.Bt.up) EV;have hld:=Abb x.Bt.Ab.Aa;unfold Lo at hld;refine go ?_;refine A1 rfl (fun h4=>?_) (fun h4=>?_)
 ·rw [show Ku x.Bt line.data.toList=some (bz (Lib.itoa (Lo x.Bt.Ab.Aa))) by unfold Ku;rw [aH (show line.data.toList=Abw from Dx.1 h4)]];refine Ih ?_;intros;refine Ar [1] [7,8] ?_;refine C8 0 1 2 3 ?_;refine dt 4 ?_;refine dN 5 ?_;refine oC ?_;refine cb (fun w2 s=>Td x.Bt.Ab.Aa.Am x.Bt.Ab.Aa.size _ x.Bt.Ab.Aa.Ak.length _ w2 hW.1.1 hW.1.2 EV) ?_;refine dk ?_;refine dN 6 ?_;refine oC ?_;refine cb (fun w2 st=>Vu (Cd x.Bt.Ab.Aa.Am x.Bt.Ab.Aa.Ak.length) EV EV w2) ?_;refine dk ?_;refine dN 7 ?_;refine oS ?_;refine N2 ?_;refine R5 8 ?_;refine dd ?_;refine go ?_
  exact AF
 refine go ?_;refine A1 rfl (fun h5=>?_) (fun h5=>?_)
 ·rw [show Ku x.Bt line.data.toList=some (bz (Lib.itoa ((qd x.Bt.down:Nat):Int))++⟨#[32]⟩++bz (Lib.itoa ((qd x.Bt.up:Nat):Int))) by unfold Ku;rw [aC (show ¬line.data.toList=Abw from fun e=>h4 (Dx.2 e)),aH (show line.data.toList=Wc from Dx.1 h5)]];refine go ?_;have hP:=fun v F=>Ah6 x.Bt v F;simp only [show Qm x.Bt=(((qd x.Bt.down:Nat):Int),((qd x.Bt.up:Nat):Int),true) by unfold Qm;rw [hg];rfl] at hP;refine Be (hP _ _) fun _ _=>?_;refine Ih ?_;intros;refine Ar [1] [] ?_;refine Dg 0 1 ?_;refine dt 4 ?_;refine dN 2 ?_;refine oC ?_
  refine cb (fun w2 st=>Vu ((qd x.Bt.down:Nat):Int) EV EV w2) ?_;refine dk ?_;refine dt 3 ?_ (hy:=Ie rfl rfl (by show _+1<=9223372036854775807;omega));refine dN 5 ?_;refine oC ?_;refine cb (fun w2 st=>Vu ((qd x.Bt.up:Nat):Int) EV EV w2) ?_;refine dk ?_;refine dt 6 ?_ (hy:=Ie rfl rfl (by rw [aQ];show _+1+_<=9223372036854775807;omega));refine dN 7 ?_;refine oS ?_;refine dk ?_;refine dt 8 ?_;refine dd ?_;exact DK
 refine go ?_;refine A1 rfl (fun h6=>?_) (fun h6=>?_)
 ·rw [show Ku x.Bt line.data.toList=some (if Y7 x.Bt then bz Bc5 else bz wNo) by unfold Ku;rw [aC (show ¬line.data.toList=Abw from fun e=>h4 (Dx.2 e)),aC (show ¬line.data.toList=Wc from fun e=>h5 (Dx.2 e)),aH (show line.data.toList=Yc from Dx.1 h6)]];refine go ?_;have hP:=fun v F=>Ahb x.Bt v F;simp only [show Gg x.Bt=(Y7 x.Bt,true) by unfold Gg;rw [hg];rfl] at hP;refine Be (hP _ _) fun _ _=>?_;cases hst:Y7 x.Bt
  ·exact DK
  ·exact DK
 ·rw [show Ku x.Bt line.data.toList=none by unfold Ku;rw [aC (show ¬line.data.toList=Abw from fun e=>h4 (Dx.2 e)),aC (show ¬line.data.toList=Wc from fun e=>h5 (Dx.2 e)),aC (show ¬line.data.toList=Yc from fun e=>h6 (Dx.2 e))]];exact DK
structure Adj (n:Dt):Prop where
 h2:2<=n.Ap.Ad.length
 h8:n.Ap.Ad.length<=8
 hd:n.down.length<=8
 hu:n.up.length=n.down.length
 hq:∀q∈n.down++n.up,q.length<=6
 hi:n.Ab.Aa.Ak.length<=1000
theorem Amf {n:Dt} (h:At n=true):Adj n:=by
 obtain ⟨q2,q8,qd,qu, -, -⟩:=M9 h;have h6:n.Ab.Aa.Ak.length<=6:=(J9 (Ax.1 h).s).l;exact ⟨q2,q8,qd,qu,Ach h,EV⟩
theorem Au9 {s:Jh} (h:Do s=true):0<=s.node/\s.node<=7:=by
 unfold Do at h
 split at h
 ·simp only [aw,aF] at h;omega
 ·split at h
  ·simp only [aw,aF] at h;omega
  ·unfold Ol Ff at h;simp only [aw,aF] at h;omega
theorem Ac2 {n:Int} (h0:-1<=n) (h1:n<=65536):(bz (Lib.itoa n)).size<=7:=by
 rw [Jv];by_cases h:0<=n
 ·rw [Ps h];have:=D8 5 n.natAbs HY;omega
 ·rw [Aa9 EV,aU];have:=D8 5 n.natAbs HY;omega
theorem Aih (B g:Nat) (F:CuF) (s:N1) (x:Cu) (v:Value) (Fx:aq) (hc:Adj x.Bt) (ok:Hw B s) (hB:B<=700000000000) :
  Fn prog 20 [Gc g 0 0,v] [.sl Jq (ab F.a F.B4.length F.c) F.B4 F.bs,.isv Dw v x Fx] [.row g 60 0 [] [ab F.a F.B4.length F.c,aa (s.k:Nat),.int .u64 s.Hm] []] (fun (z:au × N1)=>z.1.size<=100/\Hw (B+300) z.2) (fun z=>af z.1) (fun z=>[.row g 60 0 [] [ab F.a F.B4.length F.c,aa (z.2.k:Nat),.int .u64 z.2.Hm] []]):=by
 refine enter func20 rfl ntmps20 fun w0=>?_;refine Cc ?_;rintro a1 c1 F1 a2 c2 F2 a3 c3 F3 a4 c4 F4 a5 c5 F5 a6 c6 F6 a7 c7 F7 rfl s1 s2 l1 l2 l3 l4 l5 l6 l7;refine E5 x.Bt (a1:=a1) (a2:=a2) (a3:=a3) (a4:=a4) (a5:=a5) (a6:=a6) (a7:=a7) ?_;refine go ?_;intros;refine Be (Alg _ g F s x.Bt _ _ hc.h2 hc.h8 hc.hd hc.hu hc.hq ok EV) fun d hd=>?_;obtain ⟨hd1, -,hd3⟩:=hd;have hn:=Au9 hd1;refine go ?_;refine cb (fun w2 st=>Vu d.t.node EV EV w2) ?_;refine go ?_;refine Be (Abe _ g F 3 d.s hd3 EV EV) fun p hp=>?_;obtain ⟨b1,s1⟩:=p;obtain ⟨-,h1⟩:=hp;dsimp only at h1 ⊢
 refine go ?_;refine Du [0,3,4] [1,2,3,4,5,6,7,8,9,10,11] (fun z:au × N1=>[(5,af z.1)]) (fun z=>[.row g 60 0 [] [ab F.a F.B4.length F.c,aa (z.2.k:Nat),.int .u64 z.2.Hm] []]) (fun z=>z.1.size<=7/\Hw (B+210) z.2) ?_ fun z hz=>?_
 ·cases b1
  ·refine go ?_;refine Bh (bz (Lib.itoa d.t.node),s1) ⟨Ac2 EV EV,h1.mono EV⟩
  ·refine go ?_;refine Be (Ee _ g F 9 s1 h1 EV EV) fun p hp=>?_;obtain ⟨r,s2⟩:=p;obtain ⟨hr,h2⟩:=hp;dsimp only at hr h2 ⊢;refine go ?_;refine cb (fun w2 st=>Vu ((r:Nat):Int) EV EV w2) ?_;refine go ?_;refine Bh (bz (Lib.itoa ((r:Nat):Int)),s2) ⟨Ac2 EV EV,h2.mono EV⟩
 obtain ⟨t,s2⟩:=z;obtain ⟨ht,h2⟩:=hz;dsimp only at ht h2 ⊢;refine go ?_;refine Be (Ee _ g F 14 s2 h2 EV EV) fun p hp=>?_;obtain ⟨r,s3⟩:=p;obtain ⟨hr,h3⟩:=hp;dsimp only at hr h3 ⊢;obtain rfl|rfl|rfl|rfl|rfl|rfl|rfl|rfl|rfl|rfl|rfl|rfl|rfl|rfl:r=0\/r=1\/r=2\/r=3\/r=4\/r=5\/r=6\/r=7\/r=8\/r=9\/r=10\/r=11\/r=12\/r=13:=EV
 ·refine Ih ?_;intros;refine Eh (xs:=[⟨#[97]⟩,⟨#[97,98,99]⟩,⟨#[120]⟩,⟨#[104,101,108,108,111]⟩,⟨#[90]⟩,⟨#[97,98,99,100,101,102,103,104,105]⟩]) (fun w=>Qg w _ EW) ?_ EW;refine Av (E:=A8) fun G2=>?_;refine go ?_;refine Be (Aeo _ _ F _ [⟨#[97]⟩,⟨#[97,98,99]⟩,⟨#[120]⟩,⟨#[104,101,108,108,111]⟩,⟨#[90]⟩,⟨#[97,98,99,100,101,102,103,104,105]⟩] _ s3 h3 EV EW EW) fun q hq=>?_;obtain ⟨u,s4⟩:=q;obtain ⟨hq,h4⟩:=hq;dsimp only at hq h4 ⊢
  exact AU
 ·refine Ih ?_;intros;refine Eh (xs:=[⟨#[97]⟩,⟨#[97,98,99]⟩,⟨#[120]⟩,⟨#[104,101,108,108,111]⟩,⟨#[90]⟩,⟨#[97,98,99,100,101,102,103,104,105]⟩]) (fun w=>Qg w _ EW) ?_ EW;refine Av (E:=A8) fun G2=>?_;refine go ?_;refine Be (Aeo _ _ F _ [⟨#[97]⟩,⟨#[97,98,99]⟩,⟨#[120]⟩,⟨#[104,101,108,108,111]⟩,⟨#[90]⟩,⟨#[97,98,99,100,101,102,103,104,105]⟩] _ s3 h3 EV EW EW) fun q hq=>?_;obtain ⟨u,s4⟩:=q;obtain ⟨hq,h4⟩:=hq;dsimp only at hq h4 ⊢
  exact AU
 ·exact AQ
 ·exact AQ
 ·exact AQ
 ·refine go ?_;apply wO;apply oc;rfl;exact Ie rfl rfl (by show 3+_<=9223372036854775807;omega);refine go ?_;refine ret (⟨_,s3⟩:au × N1) ⟨?_,h3.mono EV⟩ rfl;show (⟨#[117,112,32]⟩++t:au).size<=100;rw [aQ];show 3+_<=100;omega
 ·refine go ?_;apply wO;apply oc;rfl;exact Ie rfl rfl (by show 5+_<=9223372036854775807;omega);refine go ?_;refine ret (⟨_,s3⟩:au × N1) ⟨?_,h3.mono EV⟩ rfl;show (⟨#[108,111,115,101,32]⟩++t:au).size<=100;rw [aQ];show 5+_<=100;omega
 ·refine go ?_;apply wO;apply oc;rfl;exact Ie rfl rfl (by show 4+_<=9223372036854775807;omega);refine go ?_;refine ret (⟨_,s3⟩:au × N1) ⟨?_,h3.mono EV⟩ rfl;show (⟨#[99,117,116,32]⟩++t:au).size<=100;rw [aQ];show 4+_<=100;omega
 ·refine go ?_;apply wO;apply oc;rfl;exact Ie rfl rfl JH;refine go ?_;refine ret (⟨_,s3⟩:au × N1) ⟨?_,h3.mono EV⟩ rfl;show (⟨#[97,119,97,105,116,32]⟩++t:au).size<=100;rw [aQ];show 6+_<=100;omega
 ·refine go ?_;apply wO;apply oc;rfl;exact Ie rfl rfl JH;refine go ?_;refine ret (⟨_,s3⟩:au × N1) ⟨?_,h3.mono EV⟩ rfl;show (⟨#[115,108,111,116,115,32]⟩++t:au).size<=100;rw [aQ];show 6+_<=100;omega
 ·refine Cn x.Bt.Ab.Aa (a1:=a2) ?_;refine go ?_;apply wO;apply oc;rfl;exact Ie rfl rfl JH;refine go ?_;apply wO;apply oc;rfl;exact Ie rfl rfl (by rw [aQ];show 6+_+1<=9223372036854775807;omega);refine go ?_;refine Be (Ai1 _ g F s3 x.Bt.Ab.Aa _ F2 h3 EV hc.hi) fun q hq=>?_;obtain ⟨m,s4⟩:=q;obtain ⟨hm,h4⟩:=hq;dsimp only at hm h4 ⊢;have hz:=Ac2 hm.1 hm.2;refine go ?_;refine cb (fun w2 st=>Vu m EV EV w2) ?_;refine go ?_
  apply wO;apply oc;rfl;exact Ie rfl rfl (by rw [aQ,aQ];show 6+_+1+_<=9223372036854775807;omega);refine go ?_;refine ret (⟨_,s4⟩:au × N1) ⟨?_,h4.mono EV⟩ rfl;show (⟨#[102,97,99,101,115,32]⟩++t++⟨#[32]⟩++bz (Lib.itoa m):au).size<=100;rw [aQ,aQ,aQ];show 6+_+1+_<=100;omega
 ·refine Ih ?_;intros;refine Eh (xs:=[⟨#[116,105,99,107]⟩,⟨#[100,114,97,105,110]⟩]) (fun w=>Qg w _ EW) ?_ EW;refine Av (E:=A8) fun G2=>?_;refine go ?_;refine Be (Aeo _ _ F _ [⟨#[116,105,99,107]⟩,⟨#[100,114,97,105,110]⟩] _ s3 h3 EV EW EW) fun q hq=>?_;obtain ⟨u,s4⟩:=q;obtain ⟨hq,h4⟩:=hq;dsimp only at hq h4 ⊢;have hu:u.size<=20:=(by decide:∀y∈([⟨#[116,105,99,107]⟩,⟨#[100,114,97,105,110]⟩]:ai),y.size<=20) u hq;refine go ?_;refine ret (⟨u,s4⟩:au × N1) ⟨by show u.size<=100;omega,h4.mono EV⟩ rfl
 ·refine Ih ?_;intros;refine Eh (xs:=[⟨#[115,101,110,100]⟩,⟨#[116,105,99,107]⟩,⟨#[100,114,97,105,110]⟩,⟨#[108,101,97,100]⟩,⟨#[113,117,101,117,101,100]⟩,⟨#[115,101,116,116,108,101,100]⟩,⟨#[]⟩,⟨#[119,104,97,116]⟩,⟨#[100,111,119,110]⟩,⟨#[100,111,119,110,32,120]⟩,⟨#[115,101,110,100,32,97,32,98]⟩,⟨#[102,97,99,101,115,32,49]⟩,⟨#[102,97,99,101,115,32,49,32,50,32,51]⟩,⟨#[97,64,98]⟩,⟨#[115,101,110,100,32]⟩]) (fun w=>Qg w _ EW) ?_ EW;refine Av (E:=A8) fun G2=>?_;refine go ?_
  refine Be (Aeo _ _ F _ [⟨#[115,101,110,100]⟩,⟨#[116,105,99,107]⟩,⟨#[100,114,97,105,110]⟩,⟨#[108,101,97,100]⟩,⟨#[113,117,101,117,101,100]⟩,⟨#[115,101,116,116,108,101,100]⟩,⟨#[]⟩,⟨#[119,104,97,116]⟩,⟨#[100,111,119,110]⟩,⟨#[100,111,119,110,32,120]⟩,⟨#[115,101,110,100,32,97,32,98]⟩,⟨#[102,97,99,101,115,32,49]⟩,⟨#[102,97,99,101,115,32,49,32,50,32,51]⟩,⟨#[97,64,98]⟩,⟨#[115,101,110,100,32]⟩] _ s3 h3 EV EW EW) fun q hq=>?_;obtain ⟨u,s4⟩:=q;obtain ⟨hq,h4⟩:=hq;dsimp only at hq h4 ⊢
  exact AL
 ·refine Ih ?_;intros;refine Eh (xs:=[⟨#[115,101,110,100]⟩,⟨#[116,105,99,107]⟩,⟨#[100,114,97,105,110]⟩,⟨#[108,101,97,100]⟩,⟨#[113,117,101,117,101,100]⟩,⟨#[115,101,116,116,108,101,100]⟩,⟨#[]⟩,⟨#[119,104,97,116]⟩,⟨#[100,111,119,110]⟩,⟨#[100,111,119,110,32,120]⟩,⟨#[115,101,110,100,32,97,32,98]⟩,⟨#[102,97,99,101,115,32,49]⟩,⟨#[102,97,99,101,115,32,49,32,50,32,51]⟩,⟨#[97,64,98]⟩,⟨#[115,101,110,100,32]⟩]) (fun w=>Qg w _ EW) ?_ EW;refine Av (E:=A8) fun G2=>?_;refine go ?_
  refine Be (Aeo _ _ F _ [⟨#[115,101,110,100]⟩,⟨#[116,105,99,107]⟩,⟨#[100,114,97,105,110]⟩,⟨#[108,101,97,100]⟩,⟨#[113,117,101,117,101,100]⟩,⟨#[115,101,116,116,108,101,100]⟩,⟨#[]⟩,⟨#[119,104,97,116]⟩,⟨#[100,111,119,110]⟩,⟨#[100,111,119,110,32,120]⟩,⟨#[115,101,110,100,32,97,32,98]⟩,⟨#[102,97,99,101,115,32,49]⟩,⟨#[102,97,99,101,115,32,49,32,50,32,51]⟩,⟨#[97,64,98]⟩,⟨#[115,101,110,100,32]⟩] _ s3 h3 EV EW EW) fun q hq=>?_;obtain ⟨u,s4⟩:=q;obtain ⟨hq,h4⟩:=hq;dsimp only at hq h4 ⊢
  exact AL
def Wm (n:Dt) (w:Bs) (k:Int):Option NR:=if P7 w≠0 then Kb n ⟨P7 w,k,⟨#[]⟩⟩ else P3 n (Jz n w [k])
theorem Aic {n:Dt} {w:Bs} {l:ar} (h:Ff 1 (l.getD 0 0) ((n.Ap.Ad.length:Int) - 1)=false):Jz n w l=none:=by unfold Jz;rw [h];rfl
theorem Asp {n:Dt} {w:Bs} {k:Int} (h:Ff 1 k ((n.Ap.Ad.length:Int) - 1)=true):Jz n w [k] =
  if w=Aho/\Te n k=true then some (Uz ((P4 n k.toNat).An.map (·.Ae)))
  else if w=Ahq/\Te n k=true/\(P4 n k.toNat).Bd=true then some (Aea (P4 n k.toNat).Aa)
  else none:=by
 rw [Ui (l:=[k]) h];by_cases h1:w=Aho/\Te n k=true
 ·rw [aH h1,aH ⟨h1.1,rfl,h1.2⟩];rfl
 rw [aC h1,aC (fun e=>h1 ⟨e.1,e.2.2⟩)];by_cases h2:w=Ahq/\Te n k=true/\(P4 n k.toNat).Bd=true
 ·rw [aH h2,aH ⟨h2.1,rfl,h2.2⟩];rfl
 rw [aC h2,aC (fun e=>h2 ⟨e.1,e.2.2⟩),aC (fun e=>by cases e.2.1)]
theorem Asq {n:Dt} {a b:Int} (h:Ff 1 a ((n.Ap.Ad.length:Int) - 1)=true):Jz n Nh [a,b] =
  if Te n a=false then (if B8 b then some (Uz (Lf (Pp n a.toNat) b)) else none) else none:=by
 rw [Ui (l:=[a,b]) h,aC (fun e=>by cases e.2.1),aC (fun e=>by cases e.2.1)];by_cases h1:Te n a=false
 ·rw [aH h1,aH ⟨rfl,rfl,h1⟩];rfl
 ·rw [aC h1,aC (fun e=>h1 e.2.2)]
theorem Amd {n:Dt} {w:Bs} {l:ar} (h:1 < l.length) (h2:¬(w=Nh/\l.length=2)):Jz n w l=none:=by
 unfold Jz
 split
 ·rw [aC (fun e=>by omega),aC (fun e=>by omega),aC (fun e=>h2 ⟨e.1,e.2.1⟩)]
 ·rfl
theorem At7 (x:Cu) (w:au) (k:Int) (v:Value) (F FT:aq) (hg:At x.Bt=true):FV 138 [v,af w,aa k] [.isv Dw v x F,Gk FT] (af ((Jz x.Bt w.data.toList [k]).getD ⟨#[63]⟩)):=by
 refine enter func138 rfl ntmps138 fun w0=>?_;refine Cc ?_;rintro a1 c1 F1 a2 c2 F2 a3 c3 F3 a4 c4 F4 a5 c5 F5 a6 c6 F6 a7 c7 F7 rfl s1 s2 l1 l2 l3 l4 l5 l6 l7;refine Jw x.Bt.Ap (a1:=a1) ?_;obtain ⟨e1,e2,e3,e4⟩:=Hx hg;obtain ⟨q2,q8,qn,qu,qe,qt⟩:=M9 hg;have hG:=Ax.1 hg;obtain ⟨-,qr, -, -⟩:=Bk.1 hG.l;refine go ?_;intros;refine ce (fun w s=>Kg _ _ _ _) ?_;rw [show (x.Bt.Ac.length:Int)=(x.Bt.Ap.Ad.length:Int) by rw [qr]];cases hb:Ff 1 k ((x.Bt.Ap.Ad.length:Int) - 1)
 ·rw [Aic (l:=[k]) hb];exact AA
 have hb0:=hb;unfold Ff at hb0;simp only [aw,aF] at hb0;rw [Asp hb];obtain ⟨i,rfl⟩:∃i:Nat,k=(i:Int):=⟨k.toNat,EV⟩;have h5:i < x.Bt.Ac.length:=EV
 have er:P4 x.Bt ((i:Int)).toNat=x.Bt.Ac[i]:=by rw [bc];exact Gp h5
 rw [er];have hR:=Ej.1 (e2 _ (aB h5));refine go ?_;refine Be (N4 x.Bt.Ap (i:Int) _ F1 (Hi hG.t) EV) fun _ _=>?_;have hLN:Te x.Bt (i:Int)=Es x.Bt.Ap.Ad (i:Int):=rfl;cases hlf:Es x.Bt.Ap.Ad (i:Int)
 ·rw [aC (fun e=>by rw [hLN,hlf] at e;cases e.2),aC (fun e=>by rw [hLN,hlf] at e;cases e.2.1)];exact AA
 rw [hLN,hlf];refine Jc (xs:=x.Bt.Ac) i ?_;rintro h5b b5 o5 a9 c9 F9 a10 c10 F10 e5 l9 l10;rw [e5];refine Dy x.Bt.Ac[i] ?_;refine go ?_;intros;refine A1 rfl (fun hw=>?_) (fun hw=>?_)
 ·rw [aH ⟨(Dx.1 hw:w.data.toList=Aho),rfl⟩];refine go ?_;refine Be (Ah5 x.Bt.Ac[i] _ _) fun z _=>?_;obtain ⟨ra,rc,rF⟩:=z;dsimp only;rw [show E7 x.Bt.Ac[i]=(x.Bt.Ac[i].An.map (·.Ae),true) by unfold E7;rw [e2 _ (aB h5)];rfl];dsimp only;refine Av (E:=Bb) (xs:=x.Bt.Ac[i].An.map (·.Ae)) fun F8=>?_;refine go ?_;have hN:∀f∈x.Bt.Ac[i].An.map (·.Ae),0<=f/\f<=99999:=fun f hf=>by
   obtain ⟨q,hq,rfl⟩:=bO.1 hf;have:=A4.1 (X4 hR hq).1;omega
  have hL:(x.Bt.Ac[i].An.map (·.Ae)).length<=1000:=by rw [bf];have:=(Di.1 hR.q).2.1;omega
  have hP:=Ajf (x.Bt.Ac[i].An.map (·.Ae)) ra rc F8 hN hL;refine Be hP fun _ _=>?_;exact AA
 rw [aC (fun e=>hw (Dx.2 e.1))];by_cases hw2:w=⟨#[115,108,111,116,115]⟩
 ·have hw3:w.data.toList=Ahq:=Dx.1 hw2;refine go ?_;rw [show decide (w=⟨#[115,108,111,116,115]⟩)=true from av hw2];cases hst:x.Bt.Ac[i].Bd
  ·rw [aC (fun e=>by cases e.2.2)];exact AA
  rw [aH ⟨hw3,rfl,rfl⟩];refine Ce x.Bt.Ac[i].Aa (a1:=a9) ?_;refine go ?_;refine Be (Att x.Bt.Ac[i].Aa _ F9 FT hR.w) fun _ _=>?_;exact AA
 ·rw [aC (fun e=>hw2 (Dx.2 e.1))];refine go ?_;rw [show decide (w=⟨#[115,108,111,116,115]⟩)=false from ay hw2];exact AA
theorem Ap1 (x:Cu) (p q:Int) (v:Value) (F:aq) (hg:At x.Bt=true):FV 73 [v,aa p,aa q] [.isv Dw v x F] (af ((Jz x.Bt Nh [p,q]).getD ⟨#[63]⟩)):=by
 refine enter func73 rfl ntmps73 fun w0=>?_;refine Cc ?_;rintro a1 c1 F1 a2 c2 F2 a3 c3 F3 a4 c4 F4 a5 c5 F5 a6 c6 F6 a7 c7 F7 rfl s1 s2 l1 l2 l3 l4 l5 l6 l7;refine Jw x.Bt.Ap (a1:=a1) ?_;obtain ⟨e1,e2,e3,e4⟩:=Hx hg;obtain ⟨q2,q8,qn,qu,qe,qt⟩:=M9 hg;have hG:=Ax.1 hg;obtain ⟨-,qr, -, -⟩:=Bk.1 hG.l;refine go ?_;intros;refine ce (fun w s=>Kg _ _ _ _) ?_;rw [show (x.Bt.Af.length:Int)=(x.Bt.Ap.Ad.length:Int) by rw [qe]];cases hb:Ff 1 p ((x.Bt.Ap.Ad.length:Int) - 1)
 ·rw [Aic (l:=[p,q]) hb];exact AA
 have hb0:=hb;unfold Ff at hb0;simp only [aw,aF] at hb0;rw [Asq hb];obtain ⟨i,rfl⟩:∃i:Nat,p=(i:Int):=⟨p.toNat,EV⟩;have hie:i < x.Bt.Af.length:=EV
 have er:Pp x.Bt ((i:Int)).toNat=x.Bt.Af[i]:=by rw [bc];exact Js hie
 rw [er];refine go ?_;refine Be (N4 x.Bt.Ap (i:Int) _ F1 (Hi hG.t) EV) fun _ _=>?_;have hLN:Te x.Bt (i:Int)=Es x.Bt.Ap.Ad (i:Int):=rfl;cases hlf:Es x.Bt.Ap.Ad (i:Int)
 rotate_left
 ·rw [hLN,hlf,aC EW];exact AA
 rw [hLN,hlf,aH rfl];have hgE:=e1 _ (aB hie);have hfn:=Air hgE q;refine N3 (xs:=x.Bt.Af) i ?_;rintro h5b b5 o5 a9 c9 F9 e5 l9;rw [e5];refine Ex x.Bt.Af[i] ?_;refine go ?_;refine Be (Aha x.Bt.Af[i] q _ _) fun z _=>?_;obtain ⟨fa,fc,fF⟩:=z;dsimp only;cases hs:B8 q
 ·rw [show Fv x.Bt.Af[i] q=([],false) by unfold Fv;rw [hs,bZ];rfl];exact AA
 rw [show Fv x.Bt.Af[i] q=(Lf x.Bt.Af[i] q,true) by unfold Fv;rw [hs,hgE];rfl] at hfn ⊢;dsimp only at hfn ⊢;refine Av (E:=Bb) (xs:=Lf x.Bt.Af[i] q) fun F8=>?_;refine go ?_;have hP:=Ajf (Lf x.Bt.Af[i] q) fa fc F8 hfn.1 hfn.2;refine Be hP fun _ _=>?_;exact AA
theorem At8 (x:Cu) (w:au) (k:Int) (v:Value) (F FT:aq) (hg:At x.Bt=true):Fn prog 72 [v,af w,aa k] [.isv Dw v x F,Gk FT] [] (fun (_:Ud)=>True) (fun u=>.tuple #[.agg u.cs.toArray,af (rsC x (Wm x.Bt w.data.toList k)).2]) (fun u=>[.isv Dw (.agg u.cs.toArray) (rsC x (Wm x.Bt w.data.toList k)).1 u.F]):=by
 refine enter func72 rfl ntmps72 fun w0=>?_;refine Cc ?_;rintro a1 c1 F1 a2 c2 F2 a3 c3 F3 a4 c4 F4 a5 c5 F5 a6 c6 F6 a7 c7 F7 rfl s1 s2 l1 l2 l3 l4 l5 l6 l7;refine E5 x.Bt (a1:=a1) (a2:=a2) (a3:=a3) (a4:=a4) (a5:=a5) (a6:=a6) (a7:=a7) ?_;refine go ?_;intros;refine A1 rfl (fun h1=>?_) (fun h1=>?_)
 ·rw [show Wm x.Bt w.data.toList k=Kb x.Bt ⟨2,k,⟨#[]⟩⟩ by rw [(Dx.1 h1:w.data.toList=_)];rfl];have hP:=fun v F=>Qh x ⟨2,k,⟨#[]⟩⟩ true v F FT hg (aE _) (by show _=decide ((2:Int)=2\/(2:Int)=4);decide);generalize rsC x (Kb x.Bt ⟨2,k,⟨#[]⟩⟩)=R at hP ⊢;refine go ?_;refine Be (hP _ _) fun u _=>?_;refine Cc (x:=R.1) ?_;rintro f1 t1 G1 f2 t2 G2 f3 t3 G3 f4 t4 G4 f5 t5 G5 f6 t6 G6 f7 t7 G7 ez s3 s4 - - - - - - -;rw [ez];refine go ?_;refine Cp R.1 s3 s4 (a1:=f1) (c1:=t1) (a2:=f2) (c2:=t2) (a3:=f3) (c3:=t3) (a4:=f4) (c4:=t4) (a5:=f5) (c5:=t5) (a6:=f6) (c6:=t6) (a7:=f7) (c7:=t7) ?_
  exact AF
 refine go ?_;refine A1 rfl (fun h2=>?_) (fun h2=>?_)
 ·rw [show Wm x.Bt w.data.toList k=Kb x.Bt ⟨5,k,⟨#[]⟩⟩ by rw [(Dx.1 h2:w.data.toList=_)];rfl];have hP:=fun v F=>Qh x ⟨5,k,⟨#[]⟩⟩ false v F FT hg (aE _) (by show _=decide ((5:Int)=2\/(5:Int)=4);decide);generalize rsC x (Kb x.Bt ⟨5,k,⟨#[]⟩⟩)=R at hP ⊢;refine go ?_;refine Be (hP _ _) fun u _=>?_;refine Cc (x:=R.1) ?_;rintro f1 t1 G1 f2 t2 G2 f3 t3 G3 f4 t4 G4 f5 t5 G5 f6 t6 G6 f7 t7 G7 ez s3 s4 - - - - - - -;rw [ez];refine go ?_;refine Cp R.1 s3 s4 (a1:=f1) (c1:=t1) (a2:=f2) (c2:=t2) (a3:=f3) (c3:=t3) (a4:=f4) (c4:=t4) (a5:=f5) (c5:=t5) (a6:=f6) (c6:=t6) (a7:=f7) (c7:=t7) ?_
  exact AF
 refine go ?_;refine A1 rfl (fun h3=>?_) (fun h3=>?_)
 ·rw [show Wm x.Bt w.data.toList k=Kb x.Bt ⟨3,k,⟨#[]⟩⟩ by rw [(Dx.1 h3:w.data.toList=_)];rfl];have hP:=fun v F=>Qh x ⟨3,k,⟨#[]⟩⟩ false v F FT hg (aE _) (by show _=decide ((3:Int)=2\/(3:Int)=4);decide);generalize rsC x (Kb x.Bt ⟨3,k,⟨#[]⟩⟩)=R at hP ⊢;refine go ?_;refine Be (hP _ _) fun u _=>?_;refine Cc (x:=R.1) ?_;rintro f1 t1 G1 f2 t2 G2 f3 t3 G3 f4 t4 G4 f5 t5 G5 f6 t6 G6 f7 t7 G7 ez s3 s4 - - - - - - -;rw [ez];refine go ?_;refine Cp R.1 s3 s4 (a1:=f1) (c1:=t1) (a2:=f2) (c2:=t2) (a3:=f3) (c3:=t3) (a4:=f4) (c4:=t4) (a5:=f5) (c5:=t5) (a6:=f6) (c6:=t6) (a7:=f7) (c7:=t7) ?_
  exact AF
 refine go ?_;refine A1 rfl (fun h4=>?_) (fun h4=>?_)
 ·rw [show Wm x.Bt w.data.toList k=Kb x.Bt ⟨6,k,⟨#[]⟩⟩ by rw [(Dx.1 h4:w.data.toList=_)];rfl];have hP:=fun v F=>Qh x ⟨6,k,⟨#[]⟩⟩ false v F FT hg (aE _) (by show _=decide ((6:Int)=2\/(6:Int)=4);decide);generalize rsC x (Kb x.Bt ⟨6,k,⟨#[]⟩⟩)=R at hP ⊢;refine go ?_;refine Be (hP _ _) fun u _=>?_;refine Cc (x:=R.1) ?_;rintro f1 t1 G1 f2 t2 G2 f3 t3 G3 f4 t4 G4 f5 t5 G5 f6 t6 G6 f7 t7 G7 ez s3 s4 - - - - - - -;rw [ez];refine go ?_;refine Cp R.1 s3 s4 (a1:=f1) (c1:=t1) (a2:=f2) (c2:=t2) (a3:=f3) (c3:=t3) (a4:=f4) (c4:=t4) (a5:=f5) (c5:=t5) (a6:=f6) (c6:=t6) (a7:=f7) (c7:=t7) ?_
  exact AF
 have eN:Wm x.Bt w.data.toList k=P3 x.Bt (Jz x.Bt w.data.toList [k]):=by
  unfold Wm P7;rw [aC (show ¬w.data.toList=Aop from fun e=>h1 (Dx.2 e)),aC (show ¬w.data.toList=wUp from fun e=>h2 (Dx.2 e)),aC (show ¬w.data.toList=Aor from fun e=>h3 (Dx.2 e)),aC (show ¬w.data.toList=Bab from fun e=>h4 (Dx.2 e))];rfl
 rw [eN,Ag1];refine Ih ?_;intros;refine Ar [1] [] ?_;refine C8 0 1 2 3 ?_;refine dN 4 ?_;refine oC ?_;refine Be (At7 x w k _ _ FT hg) fun _ _=>?_;refine dk ?_;refine dN 5 ?_;refine oS ?_;refine dk ?_;refine dt 6 ?_;refine dd ?_;exact DK
theorem Alb {n:Dt} {line:au} {ws:ai} (hW:wsL ws=Gb line) (h0:1 < ws.length):Ou n line=match I6 (wsL ws) with
  | some s=>Kb n s
  | none=>if Ra (ws.drop 1) then P3 n (Jz n (ws[0]).data.toList (J8 (ws.drop 1))) else none:=by
 have hl:(wsL ws).length=ws.length:=by unfold wsL;rw [bf]
 have hd:¬line.data.toList=Wb:=fun e=>by
  have h2:Gb line=[Wb]:=by unfold Gb;rw [e];rfl
  rw [<-hW] at h2;rw [h2] at hl;simp at hl;omega
 have hdr:((wsL ws).drop 1).map bz=ws.drop 1:=by
  unfold wsL;rw [<-List.map_drop,eS];exact (dQ fun x _=>Uj x).trans (fS _)
 unfold Ou;rw [<-hW];cases I6 (wsL ws) with
 | some s=>rfl
 | none =>
  dsimp only;rw [aC hd,aC EV,hdr,show atW (wsL ws) 0=(ws[0]).data.toList from Ry EV]
theorem Ay5 {n:Dt} {line:au} {ws:ai} (hW:wsL ws=Gb line) (h1:1 < ws.length) (h:(ws[0]'EV)=⟨#[115,101,110,100]⟩) (hn:ws.length=2) (he:¬ws[1]=⟨#[]⟩):Ou n line=Kb n ⟨1,0,ws[1]⟩:=by
 rw [Alb hW h1,Aec h1 h hn he]
theorem Ay3 {n:Dt} {line:au} {ws:ai} (hW:wsL ws=Gb line) (h:3 < ws.length):Ou n line=none:=by
 rw [Alb hW EV,X8 EV (fun _ e=>by omega) EV];dsimp only
 split
 ·rw [Amd (by unfold J8;rw [bf,aX];omega) (fun e=>by have:=e.2;unfold J8 at this;rw [bf,aX] at this;omega)];rfl
 ·rfl
theorem Ar4 {n:Dt} {line:au} {ws:ai} (hW:wsL ws=Gb line) (h1:1 < ws.length) (hn:ws.length=2) (hs:¬((ws[0]'EV)=⟨#[115,101,110,100]⟩/\¬ws[1]=⟨#[]⟩)):Ou n line=if (C3 ws[1]).2=true then Wm n (ws[0]'EV).data.toList (C3 ws[1]).1 else none:=by
 rw [Alb hW h1,Aj0 h1 hn hs]
 match ws,hn with
 | [a,b],_ =>
  show (match (if P7 a.data.toList≠0/\(C3 b).2=true then some (⟨P7 a.data.toList,(C3 b).1,⟨#[]⟩⟩:Jh) else none) with
   | some s=>Kb n s
   | none=>if Ra [b] then P3 n (Jz n a.data.toList (J8 [b])) else none)=if (C3 b).2=true then Wm n a.data.toList (C3 b).1 else none
  have ho:Ra [b]=(C3 b).2:=by unfold Ra;simp
  have hv:J8 [b]=[(C3 b).1]:=rfl;rw [ho,hv];unfold Wm;by_cases hk:P7 a.data.toList≠0
  ·cases hp:(C3 b).2
   ·rw [aC (fun e=>by cases e.2)];rfl
   ·rw [aH ⟨hk,rfl⟩,aH hk];rfl
  ·rw [aC (fun e=>hk e.1),aC hk]
theorem Ajv {n:Dt} {line:au} {ws:ai} (hW:wsL ws=Gb line) (h1:1 < ws.length) (h2:2 < ws.length) (hn:ws.length=3):Ou n line=if (C3 ws[1]).2=true/\(C3 ws[2]).2=true/\(ws[0]'EV).data.toList=Nh then P3 n (Jz n Nh [(C3 ws[1]).1,(C3 ws[2]).1]) else none:=by
 rw [Alb hW h1,X8 EV (fun _ e=>by omega) EV]
 match ws,hn with
 | [a,b,c],_ =>
  show (if Ra [b,c] then P3 n (Jz n a.data.toList (J8 [b,c])) else none)=if (C3 b).2=true/\(C3 c).2=true/\a.data.toList=Nh then P3 n (Jz n Nh [(C3 b).1,(C3 c).1]) else none
  have ho:Ra [b,c]=((C3 b).2 && (C3 c).2):=by unfold Ra;simp
  have hv:J8 [b,c]=[(C3 b).1,(C3 c).1]:=rfl;rw [ho,hv];by_cases hf:a.data.toList=Nh
  ·rw [hf];cases (C3 b).2
   ·rw [aC (show ¬(false=true/\(C3 c).2=true/\Nh=Nh) from fun e=>by cases e.1)];rfl
   cases (C3 c).2
   ·rw [aC (show ¬(true=true/\false=true/\Nh=Nh) from fun e=>by cases e.2.1)];rfl
   rw [aH (show true=true/\true=true/\Nh=Nh from ⟨rfl,rfl,rfl⟩)];rfl
  ·rw [aC (show ¬((C3 b).2=true/\(C3 c).2=true/\a.data.toList=Nh) from fun e=>hf e.2.2),Amd EX (fun e=>hf e.1)];cases (C3 b).2 <;> cases (C3 c).2 <;> rfl
theorem X6 (s:au) (hs:s.size<=1000000000):FV 71 [af s] [] (.tuple #[aa (C3 s).1,.bool (C3 s).2]):=by
 refine enter func71 rfl ntmps71 fun w0=>?_;refine go ?_;refine Be (Axr s hs) fun _ _=>?_;exact AA
theorem Axu (x:Cu) (line:au) (v:Value) (F FT:aq) (hg:At x.Bt=true) (hl:line.size<=900):Fn prog 40 [v,af line] [.isv Dw v x F,Gk FT] [] (fun (_:Ud)=>True) (fun u=>.tuple #[.agg u.cs.toArray,af (rsC x (Ou x.Bt line)).2]) (fun u=>[.isv Dw (.agg u.cs.toArray) (rsC x (Ou x.Bt line)).1 u.F]):=by
 obtain ⟨hw0,hwl,hws⟩:=Aj9 line;refine enter func40 rfl ntmps40 fun w0=>?_;refine Cc ?_;rintro a1 c1 F1 a2 c2 F2 a3 c3 F3 a4 c4 F4 a5 c5 F5 a6 c6 F6 a7 c7 F7 rfl s1 s2 l1 l2 l3 l4 l5 l6 l7;refine E5 x.Bt (a1:=a1) (a2:=a2) (a3:=a3) (a4:=a4) (a5:=a5) (a6:=a6) (a7:=a7) ?_;refine go ?_;intros;refine Be (Ajc line 32 EV) fun q _=>?_;obtain ⟨qa,qc,qF⟩:=q;dsimp only;rw [show (Ea 32 line.data.toList).map bz=Ub line from rfl];generalize hwd:Ub line=ws at *;have hWL:wsL ws=Gb line:=by rw [<-hwd];exact Aka line
 refine Av (E:=A8) (xs:=ws) fun F8=>?_;refine go ?_;refine A1 rfl (fun h1=>?_) (fun h1=>?_)
 ·have hr:=Ay6 (n:=x.Bt) (line:=line) (by rw [<-hWL];unfold wsL;rw [bf];omega);rw [hr];have hP:=fun v F=>At9 x line v F FT hg;generalize rsC x (Va x.Bt line)=R at hP ⊢;refine go ?_;refine Be (hP _ _) fun u _=>?_;refine Cc (x:=R.1) ?_;rintro f1 t1 G1 f2 t2 G2 f3 t3 G3 f4 t4 G4 f5 t5 G5 f6 t6 G6 f7 t7 G7 ez s3 s4 - - - - - - -;rw [ez];refine go ?_;exact BA
 have hi1:1 < ws.length:=EV
 have hs1:=hws _ (aB hi1);refine Mg (xs:=ws) 0 ?_;rintro hi0 b0 o0 rfl s0;refine Mg (xs:=ws) 1 ?_;rintro - b1 o1 e9 s9;cases e9;apply N7;refine Du [2,4,5,6,7] [0,1,2,3,4,5,6,7,8,9,10,11,12,13,14] (fun b:Bool=>[(24,.bool b)]) (fun _=>[]) (fun b=>b=decide (ws[0]=⟨#[115,101,110,100]⟩/\ws.length=2/\¬ws[1]=⟨#[]⟩)) ?_ fun b hb9=>?_
 ·by_cases hs:ws[0]=⟨#[115,101,110,100]⟩
  ·refine go ?_;rw [show decide (ws[0]=⟨#[115,101,110,100]⟩)=true from av hs];refine go ?_;by_cases hn:ws.length=2
   ·rw [show decide ((ws.length:Int)=2)=true from av EV];refine go ?_;refine Bh (decide (¬ws[1]=⟨#[]⟩)) ?_;simp [hs,hn]
   ·rw [show decide ((ws.length:Int)=2)=false from ay EV];refine go ?_;refine Bh false ?_;simp [hn]
  ·refine go ?_;rw [show decide (ws[0]=⟨#[115,101,110,100]⟩)=false from ay hs];refine go ?_;refine Bh false ?_;simp [hs]
 subst hb9;by_cases hc:ws[0]=⟨#[115,101,110,100]⟩/\ws.length=2/\¬ws[1]=⟨#[]⟩
 ·rw [av hc];rw [Ay5 hWL hi1 hc.1 hc.2.1 hc.2.2];have hP:=fun v F=>Qh x ⟨1,0,ws[1]⟩ false v F FT hg (show (ws[1]).size<=maxLen by unfold maxLen;omega) (by show _=decide ((1:Int)=2\/(1:Int)=4);decide);generalize rsC x (Kb x.Bt ⟨1,0,ws[1]⟩)=R at hP ⊢;refine Ih ?_;intros;refine Ar [0,4] [] ?_;refine C8 0 1 2 3 ?_;refine dt 4 ?_;refine dN 5 ?_;refine oC ?_;refine Be (hP _ _) fun u _=>?_;refine Cc (x:=R.1) ?_;rintro f1 t1 G1 f2 t2 G2 f3 t3 G3 f4 t4 G4 f5 t5 G5 f6 t6 G6 f7 t7 G7 ez s3 s4 - - - - - - -;rw [ez];refine dk ?_;refine Dg 6 7 ?_;refine dN 8 ?_;refine oS ?_;refine dk ?_
  refine dt 9 ?_;refine dd ?_;refine go ?_;exact BA
 rw [ay hc];refine go ?_;refine A1 rfl (fun h3=>?_) (fun h3=>?_)
 ·rw [Ay3 hWL EV];exact DK
 refine go ?_;refine Be (X6 ws[1] EV) fun _ _=>?_;cases hp:(C3 ws[1]).2
 ·have hr:Ou x.Bt line=none:=by
   by_cases hn:ws.length=2
   ·rw [Ar4 hWL hi1 hn (fun e=>hc ⟨e.1,hn,e.2⟩),hp];rfl
   ·rw [Ajv hWL hi1 EV EV,hp,aC (fun e=>by cases e.1)]
  rw [hr];exact DK
 refine go ?_;refine A1 rfl (fun h2=>?_) (fun h2=>?_)
 ·have hn:ws.length=2:=EV
  rw [Ar4 hWL hi1 hn (fun e=>hc ⟨e.1,hn,e.2⟩),hp,aH rfl];have hP:=fun v F=>At8 x ws[0] (C3 ws[1]).1 v F FT hg;generalize rsC x (Wm x.Bt (ws[0]).data.toList (C3 ws[1]).1)=R at hP ⊢;refine Ih ?_;intros;refine Ar [1,4] [] ?_;refine C8 0 1 2 3 ?_;refine dt 4 ?_;refine dN 5 ?_;refine oC ?_;refine Be (hP _ _) fun u _=>?_;refine Cc (x:=R.1) ?_;rintro f1 t1 G1 f2 t2 G2 f3 t3 G3 f4 t4 G4 f5 t5 G5 f6 t6 G6 f7 t7 G7 ez s3 s4 - - - - - - -;rw [ez];refine dk ?_;refine Dg 6 7 ?_;refine dN 8 ?_;refine oS ?_;refine dk ?_;refine dt 9 ?_;refine dd ?_;refine go ?_
  exact BA
 have hn:ws.length=3:=EV
 have hi2:2 < ws.length:=EV
 have hs2:=hws _ (aB hi2);rw [Ajv hWL hi1 hi2 hn,hp];refine Mg (xs:=ws) 2 ?_;rintro - b2 o2 e9 s8;cases e9;refine go ?_;refine Be (X6 ws[2] EV) fun _ _=>?_;cases hp2:(C3 ws[2]).2
 ·rw [aC (fun e=>by cases e.2.1)];exact DK
 by_cases hf:ws[0]=⟨#[102,97,99,101,115]⟩
 ·rw [aH ⟨rfl,rfl,(Dx.1 hf:(ws[0]).data.toList=Nh)⟩,Ag1];refine go ?_;rw [show decide (¬ws[0]=⟨#[102,97,99,101,115]⟩)=false from ay (fun h=>h hf)];refine Ih ?_;intros;refine Ar [5] [] ?_;refine C8 0 1 2 3 ?_;refine dN 4 ?_;refine oC ?_;refine Be (Ap1 x (C3 ws[1]).1 (C3 ws[2]).1 _ _ hg) fun _ _=>?_;refine dk ?_;refine dN 5 ?_;refine oS ?_;refine dk ?_;refine dt 6 ?_;refine dd ?_;exact DK
 ·rw [aC (fun e=>hf (Dx.2 e.2.2))];refine go ?_;rw [show decide (¬ws[0]=⟨#[102,97,99,101,115]⟩)=true from av hf];exact DK
theorem Bcr {x:Cu} {line:au}:rsC x (Ou x.Bt line)=(⟨Hl x.Bt line,x.Im⟩,Py x.Bt line):=by
 unfold rsC Hl Py;cases Ou x.Bt line <;> rfl
theorem Au5 (l:Log) (line Eg:au) (w:World) (hv:Fs l.Bj.data.toList l.pending.data.toList l.count=true) (hc:¬l.count=60) (hr:Lg.By line Eg=true) (hz:l.Bj.size+l.pending.size<=30000) (h1:line.size<=160) (h2:Eg.size<=200) :
  Calls prog 36 #[.agg #[af l.Bj,af l.pending,aa l.count],.agg #[af line,af Eg]] w (RB (.tuple #[.agg #[af (P8 l line Eg).Bj,af (P8 l line Eg).pending,aa (P8 l line Eg).count],aa 0]) w):=by
 have hcn:=Lg.T0 hv;obtain ⟨k,hk⟩:∃k:Nat,l.count=k:=⟨l.count.toNat,EV⟩;have h:=(Ajy l.Bj l.pending line Eg k (by rw [<-hk];exact hv) EV hr hz h1 h2).val w nofun;rw [<-hk] at h;unfold P8;rw [show k=l.count.toNat by omega] at h;exact h
theorem Rf (x:Cu) (line:au) (v:Value) (F FT:aq) (hs:Pl x.Bt) (hz:x.Im.Bj.size+x.Im.pending.size<=1048576) (hl:line.size<=maxLen):Fn prog 14 [v,af line] [.isv Dw v x F,Gk FT] [] (fun (_:Ud)=>True) (fun u=>.tuple #[.agg u.cs.toArray,af (Bp x line).2]) (fun u=>[.isv Dw (.agg u.cs.toArray) (Bp x line).1 u.F]):=by
 refine enter func14 rfl ntmps14 fun w0=>?_;refine Cc ?_;rintro a1 c1 F1 a2 c2 F2 a3 c3 F3 a4 c4 F4 a5 c5 F5 a6 c6 F6 a7 c7 F7 rfl s1 s2 l1 l2 l3 l4 l5 l6 l7;refine E5 x.Bt (a1:=a1) (a2:=a2) (a3:=a3) (a4:=a4) (a5:=a5) (a6:=a6) (a7:=a7) ?_;refine go ?_;intros;refine Be (Am6 x _ F hs) fun u0 _=>?_;refine Cc (x:=x) ?_;rintro f1 t1 G1 f2 t2 G2 f3 t3 G3 f4 t4 G4 f5 t5 G5 f6 t6 G6 f7 t7 G7 ez - - - - - - - - -;rw [ez];refine go ?_;intros;refine Be (Acu x _ F hz) fun _ _=>?_;unfold Bp;cases hg:E9 x
 ·rw [aC EW];exact BL
 rw [aH rfl];have hgn:At x.Bt=true:=by unfold E9 at hg;rw [aw] at hg;exact hg.1
 have hgl:Fs x.Im.Bj.data.toList x.Im.pending.data.toList x.Im.count=true:=by unfold E9 at hg;rw [aw] at hg;exact hg.2
 have hsz:=Aav hg;refine go ?_;refine cb (fun w st=>Lg.Sq line ⟨#[]⟩ w hl (aE _)) ?_;rw [show Lg.By line ⟨#[]⟩=Of line from rfl];cases h1:Of line
 ·have e:Rh x line=(x,bz Baa):=by unfold Rh;rw [h1];rfl
  rw [e];exact BL
 refine go ?_;refine A1 rfl (fun h2=>?_) (fun h2=>?_)
 ·have e:Rh x line=(x,bz Aoq):=by unfold Rh;rw [h1,aH rfl,aH h2]
  rw [e];exact BL
 have hlz:line.size<=160:=by
  have h:=h1;unfold Of Lg.By Ff at h;simp only [aw,aF] at h;have:=h.1.1.1.1.2;omega
 rw [Afx ⟨h1,h2⟩];have ht:=Akn (Ala (line:=line) hgn);have hgr:=Vj h1 ht.1 ht.2;have hgm:=Aju (line:=line) hgn;refine Cp x s1 s2 (a1:=f1) (c1:=t1) (a2:=f2) (c2:=t2) (a3:=f3) (c3:=t3) (a4:=f4) (c4:=t4) (a5:=f5) (c5:=t5) (a6:=f6) (c6:=t6) (a7:=f7) (c7:=t7) ?_;refine go ?_;refine Be (Axu x line _ _ FT hgn EV) fun u _=>?_;rw [Bcr];dsimp only;refine Cc (x:=(⟨Hl x.Bt line,x.Im⟩:Cu)) ?_;rintro g1 u1 K1 g2 u2 K2 g3 u3 K3 g4 u4 K4 g5 u5 K5 g6 u6 K6 g7 u7 K7 ez - - - - - - - - -;rw [ez];refine go ?_;intros;refine Be (Am6 ⟨Hl x.Bt line,x.Im⟩ _ _ (Ox hgm)) fun u1 _=>?_
 refine Cc (x:=(⟨Hl x.Bt line,x.Im⟩:Cu)) ?_;rintro b1 d1 L1 b2 d2 L2 b3 d3 L3 b4 d4 L4 b5 d5 L5 b6 d6 L6 b7 d7 L7 ez - - - - - - - - -;rw [ez];refine go ?_;refine Du [1,2,4,5,6] [0,1,2,3,4,5,6,18,27,28,37,38] (fun _:Unit=>[(8,af (Rk (Py x.Bt line)))]) (fun _=>[]) (fun _=>True) ?_ fun _ _=>?_
 ·refine A1 rfl (fun h5=>?_) (fun h5=>?_)
  ·have e:Rk (Py x.Bt line)=bz Bac:=by unfold Rk;rw [aH EV]
   rw [e];exact CN
  ·have e:Rk (Py x.Bt line)=Py x.Bt line:=by unfold Rk;rw [aC EV]
   rw [e];exact CN
 refine go ?_;refine cb (fun w st=>Au5 x.Im line (Rk (Py x.Bt line)) w hgl h2 hgr hsz hlz ht.2) ?_;have hcg:=Aav (Xe (line:=line) hg);rw [Afx ⟨h1,h2⟩] at hcg;dsimp only at hcg;refine go ?_;refine Cp (⟨Hl x.Bt line,P8 x.Im line (Rk (Py x.Bt line))⟩:Cu) (show (P8 x.Im line (Rk (Py x.Bt line))).Bj.size<=maxLen by unfold maxLen;omega) (show (P8 x.Im line (Rk (Py x.Bt line))).pending.size<=maxLen by unfold maxLen;omega) (a1:=b1) (c1:=d1) (a2:=b2) (c2:=d2) (a3:=b3) (c3:=d3) (a4:=b4) (c4:=d4) (a5:=b5) (c5:=d5) (a6:=b6) (c6:=d6) (a7:=b7) (c7:=d7) ?_;exact AF
structure RsS where
 k:Nat
 z:NL
 F:aq
 a:aj
 c:Nat
 Fa:aq
theorem As2 {c:Cu} {l:au} (hg:E9 c=true):Bp c l=Rh c l:=by unfold Bp;rw [hg,aH rfl]
theorem Xi {c:Cu} (hg:E9 c=true):At c.Bt=true:=by unfold E9 at hg;rw [aw] at hg;exact hg.1
structure RpS where
 k:Nat
 x:Cu
 z:NL
 F:aq
theorem Ake (l:Log) (v:Value) (F FT:aq) (hw:Bah l<=1048576):Fn prog 18 [v] [.isv Bdz v l F,Gk FT] [] (fun (_:aj × Nat × aq)=>True) (fun s=>.tuple #[.slice s.1 (Lg.Nc l).1.length s.2.1,.bool (Lg.Nc l).2]) (fun s=>[.ow I9 56 (.slice s.1 (Lg.Nc l).1.length s.2.1) (Lg.Nc l).1 s.2.2]):=by
 unfold Bah at hw;refine enter func18 rfl ntmps18 fun w0=>?_;refine Bca (v:=v) (x:=l) ?_;rintro _ rfl s1 s2;refine go ?_;intros;refine Be (Aao l.Bj l.pending l.count FT EV) fun _ _=>?_;unfold Lg.Nc;cases hv:Fs l.Bj.data.toList l.pending.data.toList l.count
 ·rw [aC EW];refine go ?_;refine Cj I9 56 ?_;refine ret (none,0,[]) trivial rfl
 rw [aH rfl];refine go ?_;refine Be (Zg (l.Bj++l.pending) (by rw [aQ];omega) FT) fun z _=>?_;rw [Lg.Hh];refine go ?_;refine ret z.1 trivial rfl
theorem Bck {l:Log}:Lg.Nc l=if Yn l then (Wo l,true) else ([],false):=rfl
theorem Ayp {l:Log} (h:Yn l=true):((Wo l).length:Int)=l.count:=by
 unfold Wo;rw [bf];exact (Lg.Abv h).cnt.symm
theorem Ber {l:Log} {line Eg:au}:P8 l line Eg≠l:=fun h=>by
 have:=congrArg Log.count h;unfold P8 at this;dsimp only at this;omega
theorem Xh {c:Cu} (h:E9 c=true):Yn c.Im=true:=by unfold E9 at h;rw [aw] at h;exact h.2
theorem Awu {c:Cu} {line:au} (h:(Bp c line).1.Im=c.Im):(Bp c line).1=c/\((Bp c line).2=bz wNo\/(Bp c line).2=bz Baa\/(Bp c line).2=bz Aoq):=by
 unfold Bp at h ⊢;cases hg:E9 c
 ·exact ⟨rfl,.inl rfl⟩
 ·rw [hg,aH rfl] at h;rw [aH rfl];by_cases ho:Of line=true/\¬c.Im.count=60
  ·rw [Afx ho] at h;exact absurd h Ber
  ·exact ⟨(Aaz ho).1,.inr (Aaz ho).2⟩
theorem Awt {c:Cu} {line:au} (h:¬(Bp c line).1.Im=c.Im):E9 (Bp c line).1=true/\Wo (Bp c line).1.Im=Wo c.Im++[⟨line,(Bp c line).2⟩]/\((Wo c.Im).length:Int)=c.Im.count:=by
 unfold Bp at h ⊢;cases hg:E9 c
 ·rw [hg] at h;exact absurd rfl h
 ·rw [hg,aH rfl] at h;rw [aH rfl];refine ⟨Xe hg,?_,Ayp (Xh hg)⟩;rw [Ayo hg];by_cases ho:Of line=true/\¬c.Im.count=60
  ·unfold Arm;rw [aH ho]
  ·rw [(Aaz ho).1] at h;exact absurd rfl h
structure CnD where
 x:Cu
 cs:am
 F:aq
 i:Nat
 s:N1
structure Bhj (B:Nat) (z:CnD):Prop where
 k:Adj z.x.Bt
 n:Pl z.x.Bt
 l:Yn z.x.Im=true
 i:z.i<=3
 s:Hw (B+9500+400 * (3 - z.i)) z.s
theorem Asf:Yn ⟨⟨#[]⟩,⟨#[]⟩,0⟩=true:=by decide
theorem Asu (B g:Nat) (F:CuF) (s:N1) (FT:aq) (ok:Hw B s) (hB:B<=400000000000) :
  Fn prog 19 [Gc g 0 0] [.sl Jq (ab F.a F.B4.length F.c) F.B4 F.bs,Gk FT] [.row g 60 0 [] [ab F.a F.B4.length F.c,aa (s.k:Nat),.int .u64 s.Hm] []] (fun (z:CnD)=>(Adj z.x.Bt/\Pl z.x.Bt/\z.x.Im.Bj.size+z.x.Im.pending.size<=70000)/\Hw (B+20000) z.s) (fun z=>.agg z.cs.toArray) (fun z=>[.isv Dw (.agg z.cs.toArray) z.x z.F,.row g 60 0 [] [ab F.a F.B4.length F.c,aa (z.s.k:Nat),.int .u64 z.s.Hm] []]):=by
 refine enter func19 rfl ntmps19 fun w0=>?_;refine go ?_;intros;rename_i g2;refine Be (Bev _ g F s FT ok EV) fun z hz=>?_;obtain ⟨n,cs,Fx,s1⟩:=z;obtain ⟨⟨n2,n8,nd,nu,nq,nsm,ni⟩,h1⟩:=hz;dsimp only at n2 n8 nd nu nq nsm ni h1 ⊢;refine Fb (x:=n) ?_;rintro b1 d1 G1 b2 d2 G2 b3 d3 G3 b4 d4 G4 b5 d5 G5 b6 d6 G6 b7 d7 G7 ev - - - - - - -;obtain rfl:=O3 ev;clear ev;refine Cp ⟨n,⟨⟨#[]⟩,⟨#[]⟩,0⟩⟩ (aE _) (aE _) (a1:=b1) (c1:=d1) (a2:=b2) (c2:=d2) (a3:=b3) (c3:=d3) (a4:=b4) (c4:=d4) (a5:=b5) (c5:=d5) (a6:=b6) (c6:=d6) (a7:=b7) (c7:=d7) ?_;refine go ?_;intros;rename_i g3
 refine Be (Abe _ g F 3 s1 h1 EV EV) fun p hp=>?_;obtain ⟨bb,s2⟩:=p;obtain ⟨-,h2⟩:=hp;dsimp only at h2 ⊢;refine go ?_;refine Du [0,2,3] [11,12,13] (fun z:CnD=>[]) (fun z=>[.row g3 41 0 [] z.cs [],.isv Dw (.agg z.cs.toArray) z.x z.F,.row g 60 0 [] [ab F.a F.B4.length F.c,aa (z.s.k:Nat),.int .u64 z.s.Hm] []]) (fun z=>Adj z.x.Bt/\Pl z.x.Bt/\Yn z.x.Im=true/\Hw (B+9200) z.s) ?_ fun z hz=>?_
 ·cases bb
  ·refine go ?_;refine Bh ⟨⟨n,⟨⟨#[]⟩,⟨#[]⟩,0⟩⟩,_,_,0,s2⟩ ⟨⟨n2,n8,nd,nu,nq,ni⟩,nsm,Asf,h2.mono EV⟩
  ·refine go ?_;refine Be (Aq0 _ g F s2 h2 EV) fun t ht=>?_;obtain ⟨ht1,ht2⟩:=ht;refine go ?_;refine Be (Tl _ g F t.s ht2 EV) fun m hm=>?_;obtain ⟨hm1,hm2⟩:=hm;refine go ?_;refine Be (Ee _ g F 6 m.2 hm2 EV EV) fun y hy=>?_;obtain ⟨k4,s4⟩:=y;obtain ⟨rk4,h4⟩:=hy;dsimp only at rk4 h4 ⊢;refine Ih ?_;intros;refine Av (E:=Bb) (xs:=t.l) fun Ft=>?_;refine Jw ⟨t.l⟩ ?_;refine go ?_;obtain ⟨en,gn⟩:=Agl (t:=⟨t.l⟩) (f:=m.1) (y:=1+(k4:Nat)) ht1 hm1.1 hm1.2 EV EV;refine Be (Ac9 ⟨t.l⟩ m.1 (1+(k4:Nat)) _ _) fun z _=>?_
   have er:Ot ⟨t.l⟩ m.1 (1+(k4:Nat))=(⟨Wv ⟨t.l⟩ m.1 (1+(k4:Nat)),⟨⟨#[]⟩,⟨#[]⟩,0⟩⟩,true):=by unfold Ot;rw [en];rfl
   rw [er];obtain ⟨ccs,F0⟩:=z;dsimp only;generalize Wv ⟨t.l⟩ m.1 (1+(k4:Nat))=N at *;refine Sg Abx fun F0=>?_;refine Cc (x:=⟨N,⟨⟨#[]⟩,⟨#[]⟩,0⟩⟩) ?_;rintro e1 f1 K1 e2 f2 K2 e3 f3 K3 e4 f4 K4 e5 f5 K5 e6 f6 K6 e7 f7 K7 ev q1 q2 - - - - - - -;obtain rfl:=O3 ev;clear ev;refine go ?_;refine Cp ⟨N,⟨⟨#[]⟩,⟨#[]⟩,0⟩⟩ q1 q2 (a1:=e1) (c1:=f1) (a2:=e2) (c2:=f2) (a3:=e3) (c3:=f3) (a4:=e4) (c4:=f4) (a5:=e5) (c5:=f5) (a6:=e6) (c6:=f6) (a7:=e7) (c7:=f7) ?_;refine Bh ⟨⟨N,⟨⟨#[]⟩,⟨#[]⟩,0⟩⟩,_,_,0,s4⟩ ⟨Amf gn,Ox gn,Asf,h4.mono EV⟩
 obtain ⟨x,cs,Fc,i9,s2⟩:=z;obtain ⟨hk,hsn,hlg,h2⟩:=hz;dsimp only at hk hsn hlg h2 ⊢;refine go ?_;refine Be (Ee _ g F 4 s2 h2 EV EV) fun y hy=>?_;obtain ⟨k4,s3⟩:=y;obtain ⟨rk4,h3⟩:=hy;dsimp only at rk4 h3 ⊢;refine go ?_;refine Ca [0,2,3] (fun z:CnD=>[(4,aa (z.i:Nat))]) (fun z=>[.row g3 41 0 [] z.cs [],.isv Dw (.agg z.cs.toArray) z.x z.F,.row g 60 0 [] [ab F.a F.B4.length F.c,aa (z.s.k:Nat),.int .u64 z.s.Hm] []]) (Bhj B) (fun z=>z.i) ⟨x,_,_,k4,s3⟩ ⟨hk,hsn,hlg,by show k4<=3;omega,h3.mono (by show _<=B+9500+400 * (3 - k4);omega)⟩ fun z hz=>?_
 clear hk hsn hlg h2 h3 rk4;obtain ⟨x,cs,Fc,i0,s3⟩:=z;obtain ⟨hk,hsn,hlg,hi,h3⟩:=hz;dsimp only at hk hsn hlg hi h3 ⊢;have hz3:x.Im.Bj.size+x.Im.pending.size<=30000:=Yb hlg;refine Cc (x:=x) ?_;rintro b1 d1 G1 b2 d2 G2 b3 d3 G3 b4 d4 G4 b5 d5 G5 b6 d6 G6 b7 d7 G7 ev q1 q2 - - - - - - -;obtain rfl:=O3 ev;clear ev;refine Cp x q1 q2 (a1:=b1) (c1:=d1) (a2:=b2) (c2:=d2) (a3:=b3) (c3:=d3) (a4:=b4) (c4:=d4) (a5:=b5) (c5:=d5) (a6:=b6) (c6:=d6) (a7:=b7) (c7:=d7) ?_
 repeat apply N7
 refine Du [0,2,3,4] [0,1,2,3,4,5,6,7,8,9,10,11,12,13] (fun b:Bool=>[(28,.bool b)]) (fun z=>[]) (fun b=>b=(decide (0 < i0) && E9 x)) ?_ fun b hb=>?_
 ·refine go ?_;by_cases h0:0 < i0
  ·rw [show decide ((i0:Int) > 0)=true from av EV];refine go ?_;refine Be (Acu x _ _ EV) fun _ _=>?_;refine go ?_;refine Bh (E9 x) (by rw [av h0];rfl)
  ·rw [show decide ((i0:Int) > 0)=false from ay EV];refine go ?_;refine Bh false (by rw [ay h0];rfl)
 cases b
 ·refine go ?_;refine Be (Abe _ g F 24 s3 h3 EV EV) fun p hp=>?_;obtain ⟨b2,s4⟩:=p;obtain ⟨-,h4⟩:=hp;dsimp only at h4 ⊢;refine go ?_;cases b2
  ·refine go ?_;refine ret ⟨x,_,_,0,s4⟩ ⟨⟨hk,hsn,by show x.Im.Bj.size+x.Im.pending.size<=70000;omega⟩,h4.mono EV⟩ rfl
  ·refine go ?_;refine Be (Awf _ g F s4 h4 EV) fun z hz=>?_;obtain ⟨l,i1,s5⟩:=z;obtain ⟨hl5,h5⟩:=hz;dsimp only at hl5 h5 ⊢;refine go ?_;refine Cp ⟨x.Bt,l⟩ (by show l.Bj.size<=_;unfold maxLen;omega) (by show l.pending.size<=_;unfold maxLen;omega) (a1:=b1) (c1:=d1) (a2:=b2) (c2:=d2) (a3:=b3) (c3:=d3) (a4:=b4) (c4:=d4) (a5:=b5) (c5:=d5) (a6:=b6) (c6:=d6) (a7:=b7) (c7:=d7) ?_;refine ret ⟨⟨x.Bt,l⟩,_,_,0,s5⟩ ⟨⟨hk,hsn,hl5⟩,h5.mono EV⟩ rfl
 ·rw [eq_comm,aw,aF] at hb;obtain ⟨hi0,hgc⟩:=hb;refine Ih ?_;intros;refine Ar [8] [4,5,6,7,8] ?_;refine dtl 0 ?_;refine dtl 1 ?_;refine dtl 2 ?_;refine dN 3 ?_;refine oC ?_;refine Be (Aih _ g F s3 x _ _ hk h3 EV) fun p hp=>?_;obtain ⟨ln,s4⟩:=p;obtain ⟨hl4,h4⟩:=hp;dsimp only at hl4 h4 ⊢;have hP:=fun v F=>Rf x ln v F FT hsn EV FC;rw [As2 hgc] at hP;refine dk ?_;refine dN 4 ?_;refine oC ?_;refine Be (hP _ _) fun u _=>?_;obtain ⟨ucs,uF⟩:=u;dsimp only;refine Cc (x:=(Rh x ln).1) ?_
  rintro f1 t1 G1 f2 t2 G2 f3 t3 G3 f4 t4 G4 f5 t5 G5 f6 t6 G6 f7 t7 G7 ev q3 q4 - - - - - - -;obtain rfl:=O3 ev;clear ev;refine N2 ?_;refine R5 5 ?_;refine R5 6 ?_;refine R5 7 ?_;refine dN 8 ?_;refine oS ?_;refine N2 ?_;refine dd ?_;refine Cp (Rh x ln).1 q3 q4 (a1:=f1) (c1:=t1) (a2:=f2) (c2:=t2) (a3:=f3) (c3:=t3) (a4:=f4) (c4:=t4) (a5:=f5) (c5:=t5) (a6:=f6) (c6:=t6) (a7:=f7) (c7:=t7) ?_;refine go ?_;rw [show ((i0:Nat):Int) - 1=((i0 - 1:Nat):Int) by omega];have hg2:=Xe (line:=ln) hgc
  refine Cb ⟨(Rh x ln).1,_,_,i0 - 1,s4⟩ ⟨Amf (Xi hg2),Ox (Xi hg2),Xh hg2,by show i0 - 1<=3;omega,h4.mono (by show _<=B+9500+400 * (3 - (i0 - 1));omega)⟩ (by show i0 - 1 < i0;omega)
theorem Ao1 (v:Value) (B4:ar) (G FT:aq):Fn prog 12 [v] [.sl Jq v B4 G,Gk FT] [] (fun (z:CnD × au)=>Adj z.1.x.Bt/\Pl z.1.x.Bt/\z.1.x.Im.Bj.size+z.1.x.Im.pending.size<=70000/\z.2.size<=101) (fun z=>.tuple #[.agg z.1.cs.toArray,af z.2]) (fun z=>[.isv Dw (.agg z.1.cs.toArray) z.1.x z.1.F]):=by
 refine enter func12 rfl ntmps12 fun w0=>?_;refine Ww (E:=Jq) ?_;rintro a c rfl l1 l2;refine go ?_;intros;rename_i g2 gc;refine Be (Asu 0 _ ⟨B4,a,c,G⟩ ⟨0,0⟩ FT ⟨aK _,EW,EW⟩ EV) fun z hz=>?_;obtain ⟨x,cs,Fx,i1,s1⟩:=z;obtain ⟨⟨hk,hsn,hlz⟩,h1⟩:=hz;dsimp only at hk hsn hlz h1 ⊢;refine Cc (x:=x) ?_;rintro b1 d1 G1 b2 d2 G2 b3 d3 G3 b4 d4 G4 b5 d5 G5 b6 d6 G6 b7 d7 G7 ev q1 q2 - - - - - - -;obtain rfl:=O3 ev;clear ev;refine Cp x q1 q2 (a1:=b1) (c1:=d1) (a2:=b2) (c2:=d2) (a3:=b3) (c3:=d3) (a4:=b4) (c4:=d4) (a5:=b5) (c5:=d5) (a6:=b6) (c6:=d6) (a7:=b7) (c7:=d7) ?_
 refine go ?_;intros;rename_i g5;refine Be (Abe _ _ ⟨B4,a,c,G⟩ 40 s1 h1 EV EV) fun p hp=>?_;obtain ⟨bb,s2⟩:=p;obtain ⟨-,h2⟩:=hp;dsimp only at h2 ⊢;refine go ?_;refine Du [2,3,4,5] [11,12,13] (fun z:CnD=>[]) (fun z=>[.row g5 41 0 [] z.cs [],.isv Dw (.agg z.cs.toArray) z.x z.F,.row gc 60 0 [] [ab a B4.length c,aa (z.s.k:Nat),.int .u64 z.s.Hm] []]) (fun z=>Adj z.x.Bt/\Pl z.x.Bt/\z.x.Im.Bj.size+z.x.Im.pending.size<=70000/\Hw 30000 z.s) ?_ fun z hz=>?_
 ·cases bb
  ·refine go ?_;refine Bh ⟨x,_,_,0,s2⟩ ⟨hk,hsn,hlz,h2.mono EV⟩
  ·refine go ?_;intros;rename_i g6;refine Be (Ee _ _ ⟨B4,a,c,G⟩ 2 s2 h2 EV EV) fun y hy=>?_;obtain ⟨k3,s3⟩:=y;obtain ⟨rk3,h3⟩:=hy;dsimp only at rk3 h3 ⊢;refine go ?_;refine Ca [2,3,4,5,6] (fun z:LgD=>[(7,aa (z.i:Nat))]) (fun z=>[.row g6 39 0 [] [af z.l.Bj,af z.l.pending,aa z.l.count] []]) (fun z=>Fs z.l.Bj.data.toList z.l.pending.data.toList z.l.count=true/\z.i<=60) (fun z=>z.i) ⟨⟨⟨#[]⟩,⟨#[]⟩,0⟩,59+k3,s3⟩ ⟨by show Fs [] [] 0=true;decide,by show 59+k3<=60;omega⟩ fun z hz=>?_;obtain ⟨z1,z2⟩:=hz;have hz3:=Yb z1;refine go ?_
   refine A1 rfl (fun h4=>?_) (fun h4=>?_)
   ·refine go ?_;refine Be (Ag9 z.l.Bj z.l.pending ⟨#[120]⟩ ⟨#[]⟩ z.l.count z1 EW EW) fun p hp=>?_;obtain ⟨p6,k6,e6⟩:=p;dsimp only at hp ⊢;refine go ?_;rw [show ((z.i:Nat):Int) - 1=((z.i - 1:Nat):Int) by omega];refine Cb ⟨⟨z.l.Bj,p6,k6⟩,z.i - 1,s3⟩ ⟨hp,by show z.i - 1<=60;omega⟩ GJ
   refine go ?_;refine Cp ⟨x.Bt,z.l⟩ (by show z.l.Bj.size<=_;unfold maxLen;omega) (by show z.l.pending.size<=_;unfold maxLen;omega) (a1:=b1) (c1:=d1) (a2:=b2) (c2:=d2) (a3:=b3) (c3:=d3) (a4:=b4) (c4:=d4) (a5:=b5) (c5:=d5) (a6:=b6) (c6:=d6) (a7:=b7) (c7:=d7) ?_;refine Bh ⟨⟨x.Bt,z.l⟩,_,_,0,s3⟩ ⟨hk,hsn,by show z.l.Bj.size+z.l.pending.size<=70000;omega,h3.mono EV⟩
 clear hk hsn hlz h1 h2;obtain ⟨x,cs,Fx,i3,s3⟩:=z;obtain ⟨hk,hsn,hlz,h3⟩:=hz;dsimp only at hk hsn hlz h3 ⊢;refine Cc (x:=x) ?_;rintro b1 d1 G1 b2 d2 G2 b3 d3 G3 b4 d4 G4 b5 d5 G5 b6 d6 G6 b7 d7 G7 ev q1 q2 - - - - - - -;obtain rfl:=O3 ev;clear ev;refine Cp x q1 q2 (a1:=b1) (c1:=d1) (a2:=b2) (c2:=d2) (a3:=b3) (c3:=d3) (a4:=b4) (c4:=d4) (a5:=b5) (c5:=d5) (a6:=b6) (c6:=d6) (a7:=b7) (c7:=d7) ?_;refine go ?_;refine Be (Aih _ _ ⟨B4,a,c,G⟩ s3 x _ _ hk h3 EV) fun p hp=>?_;obtain ⟨ln,s4⟩:=p;obtain ⟨hln,h4⟩:=hp;dsimp only at hln h4 ⊢;refine go ?_
 refine Be (Abe _ _ ⟨B4,a,c,G⟩ 8 s4 h4 EV EV) fun p hp=>?_;obtain ⟨b8,s5⟩:=p;obtain ⟨-,h5⟩:=hp;dsimp only at h5 ⊢;refine go ?_;cases b8
 ·refine go ?_;refine ret (⟨x,_,_,0,s5⟩,ln) ⟨hk,hsn,hlz,by show ln.size<=101;omega⟩ rfl
 ·refine go ?_;refine Be (An8 _ _ ⟨B4,a,c,G⟩ s5 ln ⟨#[32,48,49,97,64,35,44]⟩ h5 EV EV EW EW) fun q hq=>?_;obtain ⟨u,s6⟩:=q;obtain ⟨hu,h6⟩:=hq;dsimp only at hu h6 ⊢;refine go ?_;refine ret (⟨x,_,_,0,s6⟩,u) ⟨hk,hsn,hlz,by show u.size<=101;omega⟩ rfl
theorem Aqd (l:Log):(Wo l).length<=60:=by unfold Wo;rw [bf];exact (Lq _).2
theorem Bbb {x:Cu} {line:au} (hk:Adj x.Bt) (hl:x.Im.Bj.size+x.Im.pending.size<=70000):(∀q∈(Bp x line).1.Bt.down++(Bp x line).1.Bt.up,q.length<=6)/\(Bp x line).1.Im.Bj.size+(Bp x line).1.Im.pending.size<=70000:=by
 unfold Bp
 split
 ·rename_i h;have hg:=Xe (line:=line) h;exact ⟨Ach (Xi hg),by have:=Aav hg;omega⟩
 ·exact ⟨hk.hq,hl⟩
theorem Asv (v:Value) (B4:ar) (G FT:aq):FV 4 [v] [.sl Jq v B4 G,Gk FT] (.bool true):=by
 refine enter func4 rfl ntmps4 fun w0=>?_;refine go ?_;refine cb (fun w st=>(Bfk v B4 G).val w (I4 (st.get (p:=.sl Jq v B4 G) EX))) ?_;refine go ?_;refine A1 rfl (fun h=>?_) (fun h=>?_)
 ·exact AA
 refine go ?_;refine Be (Ao1 v B4 G FT) fun z hz=>?_;obtain ⟨⟨x,cs,Fx,i1,s1⟩,line⟩:=z;obtain ⟨hk,hsn,hlz,hln⟩:=hz;dsimp only at hk hsn hlz hln ⊢;refine Cc (x:=x) ?_;rintro b1 d1 G1 b2 d2 G2 b3 d3 G3 b4 d4 G4 b5 d5 G5 b6 d6 G6 b7 d7 G7 ev q1 q2 - - - - - - -;obtain rfl:=O3 ev;clear ev;refine Cp x q1 q2 (a1:=b1) (c1:=d1) (a2:=b2) (c2:=d2) (a3:=b3) (c3:=d3) (a4:=b4) (c4:=d4) (a5:=b5) (c5:=d5) (a6:=b6) (c6:=d6) (a7:=b7) (c7:=d7) ?_;refine go ?_;intros;rename_i g3;have hP:=fun v F=>Ab3 x line v F FT hsn EV FC
 have hQ:=fun v F=>Rf x line v F FT hsn EV FC;obtain ⟨hmq,hmz⟩:=Bbb (line:=line) hk hlz;have hc1:=Awu (c:=x) (line:=line);have hc2:=Awt (c:=x) (line:=line);generalize Bp x line=R at *;obtain ⟨m,Kz⟩:=R;dsimp only at hP hQ hmq hmz hc1 hc2;refine Be (hP _ _) fun u _=>?_;obtain ⟨ucs,uF⟩:=u;dsimp only;refine Sg Abx fun F5=>?_;refine Cc (x:=m) ?_;rintro e1 f1 K1 e2 f2 K2 e3 f3 K3 e4 f4 K4 e5 f5 K5 e6 f6 K6 e7 f7 K7 ev q3 q4 - - - - - - -;obtain rfl:=O3 ev;clear ev
 refine Cp m q3 q4 (a1:=e1) (c1:=f1) (a2:=e2) (c2:=f2) (a3:=e3) (c3:=f3) (a4:=e4) (c4:=f4) (a5:=e5) (c5:=f5) (a6:=e6) (c6:=f6) (a7:=e7) (c7:=f7) ?_;refine go ?_;intros;rename_i g5;refine Be (hQ _ _) fun u _=>?_;obtain ⟨ucs,uF⟩:=u;dsimp only;refine Cc (x:=m) ?_;rintro u1 y1 W1 u2 y2 W2 u3 y3 W3 u4 y4 W4 u5 y5 W5 u6 y6 W6 u7 y7 W7 ev q5 q6 - - - - - - -;obtain rfl:=O3 ev;clear ev;refine Cp m q5 q6 (a1:=u1) (c1:=y1) (a2:=u2) (c2:=y2) (a3:=u3) (c3:=y3) (a4:=u4) (c4:=y4) (a5:=u5) (c5:=y5) (a6:=u6) (c6:=y6) (a7:=u7) (c7:=y7) ?_;refine Ih ?_;intros;refine Ar [0,10,20] [] ?_;refine Dg 0 1 ?_
 refine dt 2 ?_;rw [show decide (¬Kz=Kz)=false from by simp];refine dt 3 ?_;refine Dd 4 ?_;refine Dd 5 ?_;refine d1g 6 ?_;apply On.h;refine oC ?_;refine Be (Ahm _ _ m _ _ fun q9 h9=>bD (hmq q9 h9) EW) fun _ _=>?_;refine dk ?_;refine Dd 7 ?_;refine Dg 8 9 ?_;refine Dd 10 ?_;refine Dd 12 ?_;refine d1g 11 ?_;apply On.h;refine oC ?_;refine Be (Qc x _ _ FT EV) fun _ _=>?_;refine dk ?_;refine d1g 13 ?_;apply On.h;refine oC ?_;refine Be (X5 x _ _ EV) fun _ _=>?_;refine dk ?_;refine Dd 14 ?_;rw [show decide (¬E9 x=E9 x)=false from by simp];refine dt 15 ?_
 refine dd ?_;refine go ?_;apply wO;apply oc;rfl;exact Asc (a:=m.Im) (b:=x.Im) rfl rfl;cases hb:Apk m.Im x.Im
 ·have hne:¬m.Im=x.Im:=fun he=>by rw [Afv.2 he] at hb;cases hb
  obtain ⟨hgm,hrec,hlen⟩:=hc2 hne;have hL:=fun v F=>Ake m.Im v F FT (by unfold Bah;omega);rw [Bck,aH (Xh hgm),hrec] at hL;have hLs:=Aqd x.Im;generalize Wo x.Im=L at *;obtain ⟨rs,hrs⟩:∃rs,rs=L++[(⟨line,Kz⟩:Ha)]:=⟨_,rfl⟩;have hrl:rs.length=L.length+1:=by rw [hrs];simp
  have hrg:∀h:L.length < rs.length,rs[L.length]=⟨line,Kz⟩:=fun h=>by simp [hrs]
  rw [<-hrs] at hL;clear hrs;refine Awq m.Im q3 q4 ?_;refine go ?_;refine Be (hL _ _) fun u _=>?_;obtain ⟨ra,rc,rF⟩:=u;dsimp only;refine Av (E:=I9) (xs:=rs) fun F8=>?_;refine go ?_;refine Be (Qc m _ _ FT EV) fun _ _=>?_;rw [hgm];refine go ?_;rw [show decide (((rs.length:Nat):Int)=x.Im.count+1)=true from av EV];refine go ?_;rw [show ((rs.length:Nat):Int) - 1=((L.length:Nat):Int) by omega];refine Ame (xs:=rs) L.length ?_;rintro hi0 b0 o0 e0 q7 q8;cases e0;rw [hrg hi0];refine go ?_;apply wO;apply oc;rfl;exact Bc6 (a:=⟨line,Kz⟩) (b:=⟨line,Kz⟩) rfl rfl;rw [As0]
  exact AA
 ·obtain ⟨he,hr⟩:=hc1 (Afv.1 hb);subst he;rcases hr with rfl|rfl|rfl
  all_goals
   refine go ?_;refine Be (Ahm _ _ m _ _ fun q9 h9=>bD (hmq q9 h9) EW) fun _ _=>?_;exact AA
theorem Ar5 : "*" ++ "errors.errorString" = "*errors.errorString" := by decide
theorem Ayz:∀u,prog.typeName? 3 u=some "*errors.errorString" -> u=382:=by
 intro u h;exact typeName_ptr_named (nm := "errors.errorString") (by rw [Ar5];kernel_rfl) EY EW u (by rw [Ar5];exact h)
theorem Beg {W:World} (hL:laidMetH prog Rows.fnConsoleRow.laid W) (hsh:W.ShapedOpen prog):(Gk [1,0,6,7]).P W:=by
 rw [MakeChecks.laidMetH_plain _ _ _ EY] at hL;have h3:=hL.tail.tail;have h5:=hL.tail.tail.tail.tail;have h6:=hL.tail.tail.tail.tail.tail;have e:(Rows.laid_internal_strconv_uint64pow10:DataW Unit)=Lib.tabData .u64 Lib.pow10Tab:=EY
 rw [e] at h3;have ht:Lib.TabIs prog W "internal/strconv.uint64pow10" .u64 Lib.pow10Tab:=Lib.tabIs_of_head (g:=1) (t:=293) (e:=58) (n:=20) EY EY underlying293 underlying58 EY EY h3;have hu:prog.underlying 172=some (.interface (prog.methodsAt 172)):=EY
 obtain ⟨a1,s1,hv1, -, -, -⟩:=laid_sentinel (g:=7) (ti:=172) (tp:=382) (te:=384) (ts:=9) h5 EY EY hu Ayz underlying382 underlying384 rfl rfl underlying9 EY EY;obtain ⟨a2,s2,hv2, -, -, -⟩:=laid_sentinel (g:=6) (ti:=172) (tp:=382) (te:=384) (ts:=9) h6 EY EY hu Ayz underlying382 underlying384 rfl rfl underlying9 EY EY
 obtain ⟨m,hm⟩:=cell_of_shapedOpen_int (P:=prog) (g:=0) (t:=3) (zero:=#[aa 0]) hsh (dp EY) EY rfl EY EY underlying3;refine ⟨[],rfl,rfl,⟨ht,⟨m,hm⟩,⟨_,_,hv2⟩,⟨_,_,hv1⟩⟩,rfl,?_⟩;have hc:=Lib.TabIs.cell ht (g:=1) EY 0 (by rw [Lib.pow10Tab_length];omega);have b0:=World.block_lt_of_cell? W ⟨1,0,none⟩ hc;intro b hb;simp only [aG,aT,bl] at hb;rcases hb with rfl|rfl|rfl|rfl
 ·exact b0
 ·exact World.block_lt_of_cell? W ⟨0,0,none⟩ hm
 ·exact World.block_lt_of_cell? W ⟨6,0,none⟩ (by simpa using World.var?_cell (show prog.globalNamed "strconv.ErrSyntax" = some 6 by kernel_rfl) hv2 0)
 ·exact World.block_lt_of_cell? W ⟨7,0,none⟩ (by simpa using World.var?_cell (show prog.globalNamed "strconv.ErrRange" = some 7 by kernel_rfl) hv1 0)
end Go.Proofs.YtkoldibamfjghaaGreatDoor
